/- A part of the proof of FnExactLevelOf. -/
import Derived.Test.YtjecgolakaiddaaBFnExactLevelOf2
import Derived.Test.YtjecgolakaiddaaBFnExactLevelOf0
import Derived.Test.YtjecgolakaiddaaBFnExactLevelOf1
import Derived.Test.YtjecgolakaiddaaBFnExactLevelOfWMore
import Derived.Laws.BitsLemmas
import Derived.StillTailTactics
section
namespace Go.Proofs.Ytjecgolakaiddaa.Cf
set_option linter.unusedVariables false
set_option linter.unusedSimpArgs false
open Go.RowKit Go.Proofs.YtjecgolakaiddaaW.PrintWords Go.Proofs.Ytjecgolakaiddaa.P
theorem wrap_succ {i : Nat} (h : i < 4611686018427387904) : wrap64 ((i : Int) + 1) = ((i + 1 : Nat) : Int) := by
  rw [wrap_id (by omega) (by omega)]
  omega
theorem toIntS_l0 (x0 : List Int) (h : x0.length ≤ 4611686018427387904) : ∀ (d i : Nat) (x3 : List Int), i + d = x0.length → x3.length = x0.length → (∀ j, j < i → x3[j]? = x0[j]?) → Ep (fun k => laws_toIntS.l0 k x0 x3 (i : Int)) (· = x0) := by
  intro d
  induction d with
  | zero =>
    intro i x3 hi hl hx
    refine Ep.up ?_
    simp only [laws_toIntS.l0]
    refine Ep.neg (by omega) (Ep.now ?_)
    apply List.ext_getElem?
    intro j
    by_cases hj : j < i
    · exact hx j hj
    · rw [List.getElem?_eq_none (by omega), List.getElem?_eq_none (by omega)]
  | succ d ih =>
    intro i x3 hi hl hx
    refine Ep.up ?_
    simp only [laws_toIntS.l0]
    refine Ep.pos (by omega) (Ep.pos (by omega) (Ep.pos (by omega) ?_))
    rw [wrap_succ (by omega)]
    refine ih (i + 1) _ (by omega) (by simpa using hl) ?_
    intro j hj
    rw [Int.toNat_natCast, rd_get (show i < x0.length by omega)]
    by_cases e : i = j
    · subst e
      rw [List.getElem?_set_self (by omega), List.getElem?_eq_getElem (by omega)]
    · rw [List.getElem?_set_ne e]
      exact hx j (by omega)
theorem toIntS_ok (l : List Int) (h : l.length ≤ 1048576) : Ep (fun k => laws_toIntS.f k l) (· = l) := by
  simp only [laws_toIntS.f]
  refine Ep.pos (by omega) (Ep.pos (by simp; omega) ?_)
  exact toIntS_l0 l (by omega) l.length 0 _ (by omega) (by simp) (fun j hj => by omega)
theorem eqIntS_l0 (x0 x1 : List Int) (h : x0.length ≤ 1048576) (hl : x0.length = x1.length) : ∀ (d i : Nat), i + d = x0.length → (∀ j, j < i → x0[j]? = x1[j]?) → Ep (fun k => laws_eqIntS.l0 k x0 x1 (i : Int)) (· = decide (x0 = x1)) := by
  intro d
  induction d with
  | zero =>
    intro i hi hx
    refine Ep.up ?_
    simp only [laws_eqIntS.l0]
    refine Ep.neg (by omega) (Ep.now ?_)
    have : x0 = x1 := by
      apply List.ext_getElem?
      intro j
      by_cases hj : j < i
      · exact hx j hj
      · rw [List.getElem?_eq_none (by omega), List.getElem?_eq_none (by omega)]
    simp [this]
  | succ d ih =>
    intro i hi hx
    refine Ep.up ?_
    simp only [laws_eqIntS.l0]
    refine Ep.pos (by omega) (Ep.pos (by omega) (Ep.pos (by omega) ?_))
    rw [rd_get (show i < x0.length by omega), rd_get (show i < x1.length by omega), wrap_succ (by omega)]
    refine Ep.ite (fun e => ?_) (fun e => Ep.now ?_)
    · refine ih (i + 1) (by omega) ?_
      intro j hj
      by_cases ej : j = i
      · subst ej
        rw [List.getElem?_eq_getElem (by omega), List.getElem?_eq_getElem (by omega), e]
      · exact hx j (by omega)
    · have : x0 ≠ x1 := by
        rintro rfl
        exact e rfl
      simp [this]
theorem eqIntS_any (x0 x1 : List Int) (h : x0.length ≤ 1048576) : Ep (fun k => laws_eqIntS.f k x0 x1) (· = decide (x0 = x1)) := by
  simp only [laws_eqIntS.f]
  refine Ep.ite (fun e => eqIntS_l0 x0 x1 h (by omega) x0.length 0 (by omega) (fun j hj => by omega)) (fun e => Ep.now ?_)
  have : x0 ≠ x1 := by
    rintro rfl
    exact e rfl
  simp [this]
theorem eqIntS_ok (x : List Int) (h : x.length ≤ 1048576) : Ep (fun k => laws_eqIntS.f k x x) (· = true) := (eqIntS_any x x h).mono (fun r hr => by rw [hr]; simp)
/-- The marks: k, k + 1, and so on. -/
def marks (k : Int) (n : Nat) : List Int := (List.range n).map (fun i : Nat => k + i)
theorem marks_len (k : Int) (n : Nat) : (marks k n).length = n := by simp [marks]
theorem marks_get {k : Int} {n i : Nat} (h : i < n) : (marks k n)[i]? = some (k + i) := by simp [marks, h]
theorem markIntS_l0 (n : Nat) (a : Int) (hn : n ≤ 1048576) (ha : 0 ≤ a ∧ a ≤ 1099511627776) : ∀ (d i : Nat) (x0 : List Int), i + d = n → x0.length = n → (∀ j, j < i → x0[j]? = (marks a n)[j]?) → Ep (fun k => laws_markIntS.l0 k x0 (a + i) (i : Int)) (· = (a + n, marks a n)) := by
  intro d
  induction d with
  | zero =>
    intro i x0 hi hl hx
    refine Ep.up ?_
    simp only [laws_markIntS.l0]
    refine Ep.neg (by omega) (Ep.now ?_)
    have : x0 = marks a n := by
      apply List.ext_getElem?
      intro j
      by_cases hj : j < i
      · exact hx j hj
      · rw [List.getElem?_eq_none (by omega), List.getElem?_eq_none (by rw [marks_len]; omega)]
    rw [this]
    have : i = n := by omega
    rw [this]
  | succ d ih =>
    intro i x0 hi hl hx
    refine Ep.up ?_
    simp only [laws_markIntS.l0]
    refine Ep.pos (by omega) (Ep.pos (by omega) ?_)
    rw [wrap_succ (by omega), wrap_id (x := a + i + 1) (by omega) (by omega), show a + (i : Int) + 1 = a + ((i + 1 : Nat) : Int) by omega]
    refine ih (i + 1) _ (by omega) (by simpa using hl) ?_
    intro j hj
    rw [Int.toNat_natCast]
    by_cases e : i = j
    · subst e
      rw [List.getElem?_set_self (by omega), marks_get (by omega)]
    · rw [List.getElem?_set_ne e]
      exact hx j (by omega)
theorem markIntS_ok (x : List Int) (a : Int) (h : x.length ≤ 1048576) (ha : 0 ≤ a ∧ a ≤ 1099511627776) : Ep (fun k => laws_markIntS.f k x a) (· = (a + x.length, marks a x.length)) := by
  have := markIntS_l0 x.length a h ha x.length 0 x (by omega) rfl (fun j hj => by omega)
  simp only [laws_markIntS.f]
  simpa using this
end Go.Proofs.Ytjecgolakaiddaa.Cf
end

section
namespace Go.Proofs.Ytjecgolakaiddaa.Cf
set_option linter.unusedVariables false
set_option linter.unusedSimpArgs false
open Go.RowKit Go.Proofs.YtjecgolakaiddaaW.PrintWords Go.Proofs.Ytjecgolakaiddaa.P
theorem rdE_get {es : List E} {i : Nat} (h : i < es.length) : rd_T70 es (i : Int) = es[i] := by simp [rd_T70, List.getD, h]
theorem l01In_eq (a b c : Int) : spec_l01In.f a b c = some (decide (b ≤ a ∧ a ≤ c)) := by
  unfold spec_l01In.f
  by_cases h : a ≥ b
  · rw [if_pos h]
    have : (b ≤ a ∧ a ≤ c) ↔ a ≤ c := ⟨fun x => x.2, fun x => ⟨h, x⟩⟩
    simp only [this]
  · rw [if_neg h]
    have : ¬ (b ≤ a ∧ a ≤ c) := fun x => h x.1
    simp only [this, decide_false]
theorem forall_drop {es : List E} {P : E → Prop} {i : Nat} (h : i < es.length) : (∀ e ∈ es.drop i, P e) ↔ (P es[i] ∧ ∀ e ∈ es.drop (i + 1), P e) := by
  rw [List.drop_eq_getElem_cons h]
  simp only [List.mem_cons, forall_eq_or_imp]
theorem specEdges_l0 (n : Int) (hn : 1 ≤ n ∧ n ≤ 6) (es : List E) (hl : es.length ≤ 12) : ∀ (d i : Nat), i + d = es.length → Ep (fun k => spec_EdgesOk.l0 k es (es.length : Int) (i : Int) n es) (· = decide (∀ e ∈ es.drop i, EOk n e)) := by
  intro d
  induction d with
  | zero =>
    intro i hi
    refine Ep.up ?_
    simp only [spec_EdgesOk.l0]
    refine Ep.neg (by omega) (Ep.now ?_)
    rw [List.drop_of_length_le (by omega)]
    simp
  | succ d ih =>
    intro i hi
    have hlt : i < es.length := by omega
    refine Ep.up ?_
    simp only [spec_EdgesOk.l0]
    refine Ep.pos (by omega) (Ep.pos (by omega) (Ep.pos (by omega) ?_))
    rw [rdE_get hlt, wrap_id (x := n - 1) (by omega) (by omega)]
    refine Ep.bind0 (l01In_eq _ _ _) ?_
    refine Ep.ite (fun h0 => ?_) (fun h0 => Ep.now ?_)
    · have h0' : 0 ≤ es[i].f0 ∧ es[i].f0 ≤ n - 1 := by simpa using h0
      rw [wrap_id (x := es[i].f0 + 1) (by omega) (by omega)]
      refine Ep.bind0 (l01In_eq _ _ _) ?_
      refine Ep.ite (fun h1 => ?_) (fun h1 => Ep.now ?_)
      · have h1' : es[i].f0 + 1 ≤ es[i].f1 ∧ es[i].f1 ≤ n - 1 := by simpa using h1
        rw [wrap_succ (by omega)]
        refine (ih (i + 1) (by omega)).mono ?_
        rintro _ rfl
        have : EOk n es[i] := by unfold EOk; omega
        simp only [forall_drop hlt, this, true_and]
      · have h1' : ¬ (es[i].f0 + 1 ≤ es[i].f1 ∧ es[i].f1 ≤ n - 1) := by simpa using h1
        have : ¬ EOk n es[i] := by unfold EOk; omega
        simp only [forall_drop hlt, this, false_and, decide_false]
    · have h0' : ¬ (0 ≤ es[i].f0 ∧ es[i].f0 ≤ n - 1) := by simpa using h0
      have : ¬ EOk n es[i] := by unfold EOk; omega
      simp only [forall_drop hlt, this, false_and, decide_false]
theorem specEdges (n : Int) (es : List E) : Ep (fun k => spec_EdgesOk.f k n es) (· = decide (EsOk n es)) := by
  simp only [spec_EdgesOk.f]
  refine Ep.bind0 (l01In_eq _ _ _) ?_
  refine Ep.ite (fun h0 => ?_) (fun h0 => ?_)
  · have h0' : 1 ≤ n ∧ n ≤ 6 := by simpa using h0
    refine Ep.up ?_
    simp only [spec_EdgesOk.j0]
    refine Ep.ite (fun h1 => Ep.now ?_) (fun h1 => ?_)
    · have : ¬ EsOk n es := by
        have : (es.length : Int) > 12 := by simpa using h1
        unfold EsOk
        omega
      simp [this]
    · have hl : es.length ≤ 12 := by
        have : ¬ (es.length : Int) > 12 := by simpa using h1
        omega
      refine (specEdges_l0 n h0' es hl es.length 0 (by omega)).mono ?_
      rintro _ rfl
      rw [List.drop_zero]
      unfold EsOk
      simp only [h0'.1, h0'.2, hl, true_and]
  · have h0' : ¬ (1 ≤ n ∧ n ≤ 6) := by simpa using h0
    refine Ep.up ?_
    simp only [spec_EdgesOk.j0]
    refine Ep.pos (by simp) (Ep.now ?_)
    have : ¬ EsOk n es := by
      unfold EsOk
      omega
    simp [this]
theorem specHas_l0 (x : Int) (l : List Int) (hl : l.length ≤ 1048576) : ∀ (d i : Nat), i + d = l.length → Ep (fun k => spec_l02Has.l0 k x l (l.length : Int) (i : Int)) (· = decide (x ∈ l.drop i)) := by
  intro d
  induction d with
  | zero =>
    intro i hi
    refine Ep.up ?_
    simp only [spec_l02Has.l0]
    refine Ep.neg (by omega) (Ep.now ?_)
    rw [List.drop_of_length_le (by omega)]
    simp
  | succ d ih =>
    intro i hi
    have hlt : i < l.length := by omega
    refine Ep.up ?_
    simp only [spec_l02Has.l0]
    refine Ep.pos (by omega) (Ep.pos (by omega) (Ep.pos (by omega) ?_))
    rw [rd_get hlt, wrap_succ (by omega), List.drop_eq_getElem_cons hlt]
    refine Ep.ite (fun h => Ep.now ?_) (fun h => ?_)
    · simp only [List.mem_cons, h, true_or, decide_true]
    · refine (ih (i + 1) (by omega)).mono ?_
      rintro _ rfl
      have : ¬ x = l[i] := fun e => h e.symm
      simp only [List.mem_cons, this, false_or]
theorem specHas (l : List Int) (x : Int) (hl : l.length ≤ 1048576) : Ep (fun k => spec_l02Has.f k l x) (· = decide (x ∈ l)) := by
  have := specHas_l0 x l hl l.length 0 (by omega)
  simp only [spec_l02Has.f]
  exact this
/-- The queue between two edges. -/
structure BInv (es : List E) (n : Nat) (q : List Int) (a i : Nat) (u : Int) : Prop where
  ok : QOk es n q
  zero : (0 : Int) ∈ q
  done : ∀ x ∈ q.take a, ∀ b, Adj es x b → b ∈ q
  at_ : q[a]? = some u
  part : ∀ e ∈ es.take i, (e.f0 = u → e.f1 ∈ q) ∧ (e.f1 = u → e.f0 ∈ q)
theorem BInv.lt {es : List E} {n : Nat} {q : List Int} {a i : Nat} {u : Int} (h : BInv es n q a i u) : a < q.length := by
  apply Classical.byContradiction
  intro hc
  have := h.at_
  rw [List.getElem?_eq_none (by omega)] at this
  cases this
theorem BInv.len {es : List E} {n : Nat} {q : List Int} {a i : Nat} {u : Int} (h : BInv es n q a i u) : q.length ≤ n := nodup_len n q h.ok.1 (fun v hv => (h.ok.2 v hv).1)
theorem BInv.rd {es : List E} {n : Nat} {q : List Int} {a i : Nat} {u : Int} (h : BInv es n q a i u) : rd q (a : Int) = u := by
  rw [rd_nat, List.getD_eq_getElem?_getD, h.at_]
  rfl
/-- A neighbour is put behind. -/
theorem BInv.push {es : List E} {n : Nat} {q : List Int} {a i : Nat} {u v : Int} (hes : ∀ e ∈ es, EOk n e) (h : BInv es n q a i u) (hv : v ∉ q) (hadj : Adj es u v) : BInv es n (q ++ [v]) a i u where
  ok := by
    have hu : u ∈ q := List.mem_of_getElem? h.at_
    exact h.ok.push hv (EsOk.adj hes hadj) ((h.ok.2 u hu).2.tail hadj)
  zero := List.mem_append_left _ h.zero
  done := fun x hx b hb => by
    rw [List.take_append_of_le_length (by have := h.lt; omega)] at hx
    exact List.mem_append_left _ (h.done x hx b hb)
  at_ := by rw [List.getElem?_append_left h.lt]; exact h.at_
  part := fun e he => ⟨fun x => List.mem_append_left _ ((h.part e he).1 x), fun x => List.mem_append_left _ ((h.part e he).2 x)⟩
theorem BInv.next {es : List E} {n : Nat} {q : List Int} {a i : Nat} {u : Int} (h : BInv es n q a i u) (hi : i < es.length) (h0 : es[i].f0 = u → es[i].f1 ∈ q) (h1 : es[i].f1 = u → es[i].f0 ∈ q) : BInv es n q a (i + 1) u where
  ok := h.ok
  zero := h.zero
  done := h.done
  at_ := h.at_
  part := fun e he => by
    rw [List.take_succ_eq_append_getElem hi] at he
    rcases List.mem_append.1 he with he | he
    · exact h.part e he
    · rw [List.mem_singleton.1 he]
      exact ⟨h0, h1⟩
theorem specReach_l1 (n : Nat) (hn : n ≤ 6) (es : List E) (hl : es.length ≤ 12) (hes : ∀ e ∈ es, EOk n e) (a : Nat) (u : Int) {Q : List Int → Prop}
    (hk : ∀ q, BInv es n q a es.length u → Ep (fun k => spec_l02Reach.l0 k q ((a + 1 : Nat) : Int) (n : Int) es) Q) :
    ∀ (d i : Nat) (q : List Int), i + d = es.length → BInv es n q a i u → Ep (fun k => spec_l02Reach.l1 k q (a : Int) es (es.length : Int) (i : Int) (n : Int) es) Q := by
  intro d
  induction d with
  | zero =>
    intro i q hi hb
    refine Ep.up ?_
    simp only [spec_l02Reach.l1]
    refine Ep.neg (by omega) ?_
    have := hb.lt
    have := hb.len
    rw [wrap_succ (by omega)]
    have e : i = es.length := by omega
    subst e
    exact hk q hb
  | succ d ih =>
    intro i q hi hb
    have hlt : i < es.length := by omega
    have hal := hb.lt
    have hql := hb.len
    have he := hes es[i] (List.getElem_mem hlt)
    have heok := he
    unfold EOk at he
    have hadj : Adj es es[i].f0 es[i].f1 := ⟨es[i], List.getElem_mem hlt, .inl ⟨rfl, rfl⟩⟩
    -- the second test, behind the first
    have second : ∀ q', BInv es n q' a i u → (es[i].f0 = u → es[i].f1 ∈ q') → Ep (fun k => if (0 : Int) ≤ (a : Int) then (if (a : Int) < (q'.length : Int) then (if es[i].f1 = rd q' (a : Int) then ((spec_l02Has.f k q' es[i].f0).bind fun t => (if t = true then (spec_l02Reach.l1 k q' (a : Int) es (es.length : Int) (wrap64 ((i : Int) + 1)) (n : Int) es) else (if q'.length < 17592186044416 then (spec_l02Reach.l1 k (q' ++ [es[i].f0]) (a : Int) es (es.length : Int) (wrap64 ((i : Int) + 1)) (n : Int) es) else (none)))) else (spec_l02Reach.l1 k q' (a : Int) es (es.length : Int) (wrap64 ((i : Int) + 1)) (n : Int) es)) else (none)) else (none)) Q := by
      intro q' hb' h0
      have hal' := hb'.lt
      have hql' := hb'.len
      refine Ep.pos (by omega) (Ep.pos (by omega) ?_)
      rw [hb'.rd, wrap_succ (by omega)]
      refine Ep.ite (fun h1 => ?_) (fun h1 => ih (i + 1) q' (by omega) (hb'.next hlt h0 (fun x => absurd x h1)))
      refine Ep.bind (specHas q' _ (by omega)) ?_
      rintro _ rfl
      refine Ep.ite (fun h2 => ih (i + 1) q' (by omega) (hb'.next hlt h0 (fun _ => by simpa using h2))) (fun h2 => Ep.pos (by omega) ?_)
      have h2' : es[i].f0 ∉ q' := by simpa using h2
      have hb2 := hb'.push hes h2' (by rw [← h1]; exact hadj.symm)
      exact ih (i + 1) _ (by omega) (hb2.next hlt (fun x => List.mem_append_left _ (h0 x)) (fun _ => by simp))
    refine Ep.up ?_
    simp only [spec_l02Reach.l1]
    refine Ep.pos (by omega) (Ep.pos (by omega) (Ep.pos (by omega) (Ep.pos (by omega) (Ep.pos (by omega) ?_))))
    rw [rdE_get hlt, hb.rd]
    refine Ep.ite (fun h0 => ?_) (fun h0 => ?_)
    · refine Ep.bind (specHas q _ (by omega)) ?_
      rintro _ rfl
      refine Ep.up ?_
      simp only [spec_l02Reach.j2]
      refine Ep.ite (fun h1 => Ep.pos (by omega) ?_) (fun h1 => second q hb (fun _ => by simpa using h1))
      have h1' : es[i].f1 ∉ q := by simpa using h1
      refine Ep.bind0 rfl ?_
      exact second _ (hb.push hes h1' (by rw [← h0]; exact hadj)) (fun _ => by simp)
    · refine Ep.up ?_
      simp only [spec_l02Reach.j2]
      exact Ep.neg (by simp) (second q hb (fun x => absurd x h0))
theorem specReach_l0 (n : Nat) (hn : 1 ≤ n ∧ n ≤ 6) (es : List E) (hl : es.length ≤ 12) (hes : ∀ e ∈ es, EOk n e) : ∀ (d a : Nat) (q : List Int), a + d = 7 → a ≤ q.length → QOk es n q → (0 : Int) ∈ q → (∀ x ∈ q.take a, ∀ b, Adj es x b → b ∈ q) →
    Ep (fun k => spec_l02Reach.l0 k q (a : Int) (n : Int) es) (fun r => (r.length = n ↔ Joined n es) ∧ r.length ≤ 6) := by
  intro d
  induction d with
  | zero =>
    intro a q ha hq hok _ _
    have := nodup_len n q hok.1 (fun v hv => (hok.2 v hv).1)
    omega
  | succ d ih =>
    intro a q ha hq hok h0 hdone
    have hlen := nodup_len n q hok.1 (fun v hv => (hok.2 v hv).1)
    refine Ep.up ?_
    simp only [spec_l02Reach.l0]
    refine Ep.ite (fun hlt => ?_) (fun hge => Ep.now ?_)
    · have hlt' : a < q.length := by omega
      have hb : BInv es n q a 0 q[a] := ⟨hok, h0, hdone, List.getElem?_eq_getElem hlt', fun e he => by simp at he⟩
      refine specReach_l1 n hn.2 es hl hes a q[a] ?_ es.length 0 q (by omega) hb
      intro q' hb'
      refine ih (a + 1) q' (by omega) (by have := hb'.lt; omega) hb'.ok hb'.zero ?_
      intro x hx b hadj
      have hal := hb'.lt
      rw [List.take_succ_eq_append_getElem hal] at hx
      rcases List.mem_append.1 hx with hx | hx
      · exact hb'.done x hx b hadj
      · have hx' : x = q'[a] := List.mem_singleton.1 hx
        have hu : q'[a] = q[a] := by
          have := hb'.at_
          rw [List.getElem?_eq_getElem hal] at this
          exact Option.some.inj this
        obtain ⟨e, he, h⟩ := hadj
        have hp := hb'.part e (by rw [List.take_of_length_le (Nat.le_refl _)]; exact he)
        rcases h with ⟨x0, x1⟩ | ⟨x0, x1⟩
        · rw [← x1]
          exact hp.1 (by rw [x0, hx', hu])
        · rw [← x0]
          exact hp.2 (by rw [x1, hx', hu])
    · have hfull : q.take a = q := List.take_of_length_le (by omega)
      rw [hfull] at hdone
      exact ⟨queue_joined hn.1 hok h0 hdone, by omega⟩
theorem specReach (n : Nat) (hn : 1 ≤ n ∧ n ≤ 6) (es : List E) (hl : es.length ≤ 12) (hes : ∀ e ∈ es, EOk n e) : Ep (fun k => spec_l02Reach.f k (n : Int) es) (fun r => (r.length = n ↔ Joined n es) ∧ r.length ≤ 6) := by
  simp only [spec_l02Reach.f]
  refine specReach_l0 n hn es hl hes 7 0 [0] rfl (by simp) ⟨by simp, fun v hv => ?_⟩ (by simp) (fun x hx => by simp at hx)
  rw [List.mem_singleton.1 hv]
  exact ⟨⟨Int.le_refl _, by omega⟩, .refl⟩
/-- Sorted up to an edge. -/
def SortedTo (es : List E) (i : Nat) : Prop := ∀ j, (h : j + 1 < es.length) → j + 1 < i → leE es[j] es[j + 1]
theorem specGraph_l0 (n : Nat) (es : List E) (hes : EsOk n es) : ∀ (d i : Nat), i + d = es.length → SortedTo es i → Ep (fun k => spec_GraphOk.l0 k es (es.length : Int) (i : Int) (n : Int) es) (· = gOk n es) := by
  have hes' := hes
  obtain ⟨hn1, hn6, hl, hok⟩ := hes
  intro d
  induction d with
  | zero =>
    intro i hi hs
    refine Ep.up ?_
    simp only [spec_GraphOk.l0]
    refine Ep.neg (by omega) ?_
    refine Ep.bind (specReach n (by omega) es hl hok) ?_
    rintro r ⟨hr, _⟩
    refine Ep.now ?_
    have hsorted : Sorted es := fun j h => hs j h (by omega)
    have hiff : GOk n es ↔ Joined n es := ⟨fun h => h.2.2, fun h => ⟨hes', hsorted, h⟩⟩
    by_cases hj : Joined n es
    · have : gOk n es = true := gOk_iff.2 (hiff.2 hj)
      rw [this, hr.2 hj]
      simp
    · have : gOk n es = false := by
        cases hg : gOk n es with
        | false => rfl
        | true => exact absurd (hiff.1 (gOk_iff.1 hg)) hj
      rw [this]
      have hne : r.length ≠ n := fun e => hj (hr.1 e)
      simp
      omega
  | succ d ih =>
    intro i hi hs
    have hlt : i < es.length := by omega
    have hbad : ∀ j, i = j + 1 → (hj : j < es.length) → ¬ leE es[j] es[i] → gOk n es = false := by
      intro j hij hj hx
      subst hij
      cases hg : gOk n es with
      | false => rfl
      | true => exact absurd ((gOk_iff.1 hg).2.1 j hlt) hx
    have hgood : (∀ j, i = j + 1 → (hj : j < es.length) → leE es[j] es[i]) → Ep (fun k => spec_GraphOk.l0 k es (es.length : Int) (wrap64 ((i : Int) + 1)) (n : Int) es) (· = gOk n es) := by
      intro hx
      rw [wrap_succ (by omega)]
      refine ih (i + 1) (by omega) ?_
      intro j h hji
      by_cases e : j + 1 < i
      · exact hs j h e
      · have e' : i = j + 1 := by omega
        have := hx j e' (by omega)
        subst e'
        exact this
    refine Ep.up ?_
    simp only [spec_GraphOk.l0]
    refine Ep.pos (by omega) (Ep.pos (by omega) (Ep.pos (by omega) ?_))
    refine Ep.ite (fun hpos => ?_) (fun hz => hgood (fun j hij _ => by omega))
    obtain ⟨j, rfl⟩ : ∃ j, i = j + 1 := ⟨i - 1, by omega⟩
    have hw : wrap64 (((j + 1 : Nat) : Int) - 1) = (j : Int) := by rw [wrap_id (by omega) (by omega)]; omega
    rw [hw, rdE_get hlt, rdE_get (show j < es.length by omega)]
    refine Ep.pos (by omega) (Ep.pos (by omega) ?_)
    refine Ep.ite (fun h0 => Ep.now ?_) (fun h0 => ?_)
    · exact (hbad j rfl (by omega) (by unfold leE; omega)).symm
    · refine Ep.ite (fun h1 => ?_) (fun h1 => hgood (fun j' hij _ => ?_))
      · refine Ep.ite (fun h2 => Ep.now ?_) (fun h2 => hgood (fun j' hij _ => ?_))
        · exact (hbad j rfl (by omega) (by unfold leE; omega)).symm
        · obtain rfl : j' = j := by omega
          unfold leE
          omega
      · obtain rfl : j' = j := by omega
        unfold leE
        omega
theorem specGraph (n : Int) (es : List E) : Ep (fun k => spec_GraphOk.f k n es) (· = gOk n es) := by
  simp only [spec_GraphOk.f]
  refine Ep.bind (specEdges n es) ?_
  rintro _ rfl
  refine Ep.ite (fun h => ?_) (fun h => Ep.now ?_)
  · have h' : EsOk n es := by simpa using h
    have h1 := h'.1
    obtain ⟨m, rfl⟩ := Int.eq_ofNat_of_zero_le (a := n) (by omega)
    exact specGraph_l0 m es h' es.length 0 (by omega) (fun j h hj => by omega)
  · have h' : ¬ EsOk n es := by simpa using h
    cases hg : gOk n es with
    | false => rfl
    | true => exact absurd (gOk_iff.1 hg).1 h'
end Go.Proofs.Ytjecgolakaiddaa.Cf
end

section
namespace Go.Proofs.Ytjecgolakaiddaa.Cf
set_option linter.unusedVariables false
set_option linter.unusedSimpArgs false
open Go.RowKit Go.Proofs.YtjecgolakaiddaaW.PrintWords Go.Proofs.YtjecgolakaiddaaW.PrintMore Go.Proofs.Ytjecgolakaiddaa.P
theorem within_eq (a b c : Int) : impl_within.f a b c = some (decide (b ≤ a ∧ a ≤ c)) := by
  unfold impl_within.f
  by_cases h : a ≥ b
  · rw [if_pos h]
    have : (b ≤ a ∧ a ≤ c) ↔ a ≤ c := ⟨fun x => x.2, fun x => ⟨h, x⟩⟩
    simp only [this]
  · rw [if_neg h]
    have : ¬ (b ≤ a ∧ a ≤ c) := fun x => h x.1
    simp only [this, decide_false]
theorem implEdges_l0 (n : Int) (es : List E) (hl : es.length ≤ 12) : ∀ (d i : Nat), i + d = es.length → Ep (fun k => impl_EdgesOk.l0 k es (es.length : Int) (i : Int) n es) (· = decide (∀ e ∈ es.drop i, EOk n e)) := by
  intro d
  induction d with
  | zero =>
    intro i hi
    refine Ep.up ?_
    simp only [impl_EdgesOk.l0]
    refine Ep.neg (by omega) (Ep.now ?_)
    rw [List.drop_of_length_le (by omega)]
    simp
  | succ d ih =>
    intro i hi
    have hlt : i < es.length := by omega
    have no : ¬ EOk n es[i] → false = decide (∀ e ∈ es.drop i, EOk n e) := fun h => by simp only [forall_drop hlt, h, false_and, decide_false]
    refine Ep.up ?_
    simp only [impl_EdgesOk.l0]
    refine Ep.pos (by omega) (Ep.pos (by omega) (Ep.pos (by omega) ?_))
    rw [rdE_get hlt]
    refine Ep.ite (fun h => Ep.now (no (by unfold EOk; omega))) (fun h0 => ?_)
    refine Ep.ite (fun h => Ep.now (no (by unfold EOk; omega))) (fun h1 => ?_)
    refine Ep.ite (fun h => Ep.now (no (by unfold EOk; omega))) (fun h2 => ?_)
    rw [wrap_succ (by omega)]
    refine (ih (i + 1) (by omega)).mono ?_
    rintro _ rfl
    have : EOk n es[i] := by unfold EOk; omega
    simp only [forall_drop hlt, this, true_and]
theorem implEdges (n : Int) (es : List E) : Ep (fun k => impl_EdgesOk.f k n es) (· = decide (EsOk n es)) := by
  simp only [impl_EdgesOk.f]
  refine Ep.bind0 (within_eq _ _ _) ?_
  refine Ep.ite (fun h0 => ?_) (fun h0 => ?_)
  · have h0' : 1 ≤ n ∧ n ≤ 6 := by simpa using h0
    refine Ep.up ?_
    simp only [impl_EdgesOk.j0]
    refine Ep.ite (fun h1 => Ep.now ?_) (fun h1 => ?_)
    · have : ¬ EsOk n es := by
        have : (es.length : Int) > 12 := by simpa using h1
        unfold EsOk
        omega
      simp [this]
    · have hl : es.length ≤ 12 := by
        have : ¬ (es.length : Int) > 12 := by simpa using h1
        omega
      refine (implEdges_l0 n es hl es.length 0 (by omega)).mono ?_
      rintro _ rfl
      rw [List.drop_zero]
      unfold EsOk
      simp only [h0'.1, h0'.2, hl, true_and]
  · have h0' : ¬ (1 ≤ n ∧ n ≤ 6) := by simpa using h0
    refine Ep.up ?_
    simp only [impl_EdgesOk.j0]
    refine Ep.pos (by simp) (Ep.now ?_)
    have : ¬ EsOk n es := by
      unfold EsOk
      omega
    simp [this]
theorem wraps_i64 (n : Int) (h0 : 0 ≤ n) (h1 : n < 2 ^ 62) : IntKind.i64.wrap n = n := by rw [IntKind.wrap_i64]; omega
theorem or_nat {a b : Nat} (ha : a < 2 ^ 62) (hb : b < 2 ^ 62) : Go.bits .or .i64 (a : Int) (b : Int) = ((a ||| b : Nat) : Int) := (bits_nat .i64 62 (by decide) wraps_i64 a b ha hb).2
theorem and_nat {a b : Nat} (ha : a < 2 ^ 62) (hb : b < 2 ^ 62) : Go.bits .and .i64 (a : Int) (b : Int) = ((a &&& b : Nat) : Int) := (bits_nat .i64 62 (by decide) wraps_i64 a b ha hb).1
theorem shl_nat {a : Nat} (ha : a < 62) : shl .i64 1 (a : Int) = ((2 ^ a : Nat) : Int) := by
  unfold shl
  have : (2 : Int) ^ a < 2 ^ 62 := by
    have := Nat.pow_lt_pow_right (a := 2) (by decide) ha
    exact_mod_cast this
  rw [Int.toNat_natCast, Nat.min_eq_left (by show a ≤ 64; omega), Int.one_mul, wraps_i64 _ (by have := Int.pow_nonneg (n := 2) (m := a) (by decide); omega) this]
  simp
theorem shr_nat {m a : Nat} (ha : a < 62) : shr .i64 (m : Int) (a : Int) = ((m / 2 ^ a : Nat) : Int) := by
  unfold shr
  rw [Int.toNat_natCast, Nat.min_eq_left (by show a ≤ 64; omega)]
  simp
/-- The test of a bit. -/
theorem bit_test {m : Nat} (hm : m < 2 ^ 62) {a : Nat} (ha : a < 62) : Go.bits .and .i64 (shr .i64 (m : Int) (a : Int)) 1 = 1 ↔ m.testBit a = true := by
  rw [shr_nat ha, show (1 : Int) = ((1 : Nat) : Int) from rfl, and_nat (Nat.lt_of_le_of_lt (Nat.div_le_self _ _) hm) (by decide)]
  rw [Nat.testBit_eq_decide_div_mod_eq, Nat.and_one_is_mod]
  generalize m / 2 ^ a = x
  simp only [decide_eq_true_eq]
  omega
theorem bit_cases {m a : Nat} : m.testBit a = true ∨ m.testBit a = false := by cases m.testBit a <;> simp
theorem step_lt {m : Nat} {e : E} {n : Int} (hm : m < 2 ^ 6) (he : EOk n e) (hn : n ≤ 6) : stepM m e < 2 ^ 6 := by
  unfold EOk at he
  unfold stepM
  split
  · apply Nat.or_lt_two_pow hm
    apply Nat.or_lt_two_pow
    · exact Nat.pow_lt_pow_right (by decide) (by omega)
    · exact Nat.pow_lt_pow_right (by decide) (by omega)
  · exact hm
theorem round_lt {n : Int} (hn : n ≤ 6) : ∀ (es : List E), (∀ e ∈ es, EOk n e) → ∀ {m : Nat}, m < 2 ^ 6 → roundM es m < 2 ^ 6 := by
  intro es
  induction es with
  | nil => intro _ m h; exact h
  | cons e r ih => intro hes m h; exact ih (fun x hx => hes x (List.mem_cons_of_mem _ hx)) (step_lt h (hes e List.mem_cons_self) hn)
open Classical in
noncomputable def joinedB (n : Int) (es : List E) : Bool := decide (Joined n es)
theorem joinedB_iff {n : Int} {es : List E} : joinedB n es = true ↔ Joined n es := by unfold joinedB; simp
theorem implConn_l1 (n : Int) (hn : n ≤ 6) (es : List E) (hl : es.length ≤ 1048576) (hes : ∀ e ∈ es, EOk n e) (x8 x9 : Int) {Q : Bool → Prop} (m0 : Nat)
    (hk : Ep (fun k => impl_connected.l0 k n es ((roundM es m0 : Nat) : Int) x8 (wrap64 (x9 + 1))) Q) :
    ∀ (d i : Nat) (m : Nat), i + d = es.length → m < 2 ^ 6 → roundM (es.drop i) m = roundM es m0 → Ep (fun k => impl_connected.l1 k n es (m : Int) x8 x9 es (es.length : Int) (i : Int)) Q := by
  intro d
  induction d with
  | zero =>
    intro i m hi hm hr
    refine Ep.up ?_
    simp only [impl_connected.l1]
    refine Ep.neg (by omega) ?_
    rw [List.drop_of_length_le (by omega)] at hr
    have e : m = roundM es m0 := hr
    rw [e]
    exact hk
  | succ d ih =>
    intro i m hi hm hr
    have hlt : i < es.length := by omega
    have hek := hes es[i] (List.getElem_mem hlt)
    have he := hek
    unfold EOk at he
    rw [List.drop_eq_getElem_cons hlt] at hr
    have hr' : roundM (es.drop (i + 1)) (stepM m es[i]) = roundM es m0 := hr
    have hst := step_lt hm hek hn
    obtain ⟨a, ha⟩ := Int.eq_ofNat_of_zero_le he.1
    obtain ⟨b, hb⟩ := Int.eq_ofNat_of_zero_le (a := es[i].f1) (by omega)
    have ha6 : a < 6 := by omega
    have hb6 : b < 6 := by omega
    have hm62 : m < 2 ^ 62 := by omega
    have pa : 2 ^ a < 2 ^ 6 := Nat.pow_lt_pow_right (by decide) ha6
    have pb : 2 ^ b < 2 ^ 6 := Nat.pow_lt_pow_right (by decide) hb6
    have pab : 2 ^ a ||| 2 ^ b < 2 ^ 6 := Nat.or_lt_two_pow pa pb
    have hset : Go.bits .or .i64 (m : Int) (Go.bits .or .i64 (shl .i64 1 (a : Int)) (shl .i64 1 (b : Int))) = ((m ||| (2 ^ a ||| 2 ^ b) : Nat) : Int) := by
      rw [shl_nat (by omega), shl_nat (by omega), or_nat (by omega) (by omega), or_nat (by omega) (by omega)]
    have hstep : (m.testBit a || m.testBit b) = true → stepM m es[i] = m ||| (2 ^ a ||| 2 ^ b) := by
      intro h
      unfold stepM
      rw [ha, hb]
      simp only [Int.ofNat_eq_natCast, Int.toNat_natCast]
      rw [if_pos h]
    have hstay : (m.testBit a || m.testBit b) = false → stepM m es[i] = m := by
      intro h
      unfold stepM
      rw [ha, hb]
      simp only [Int.ofNat_eq_natCast, Int.toNat_natCast]
      rw [if_neg (by rw [h]; simp)]
    refine Ep.up ?_
    simp only [impl_connected.l1]
    refine Ep.pos (by omega) (Ep.pos (by omega) (Ep.pos (by omega) ?_))
    rw [rdE_get hlt, ha, hb]
    refine Ep.pos (by omega) ?_
    rw [hset, wrap_succ (by omega)]
    refine Ep.ite (fun h => Ep.pos (by omega) ?_) (fun h => Ep.pos (by omega) (Ep.ite (fun h2 => ?_) (fun h2 => ?_)))
    · have := (bit_test hm62 (by omega)).1 h
      rw [← hstep (by rw [this]; rfl)]
      exact ih (i + 1) _ (by omega) hst hr'
    · have := (bit_test hm62 (by omega)).1 h2
      rw [← hstep (by rw [this]; simp)]
      exact ih (i + 1) _ (by omega) hst hr'
    · have h1 : m.testBit a = false := by
        rcases bit_cases (m := m) (a := a) with x | x
        · exact absurd ((bit_test hm62 (by omega)).2 x) h
        · exact x
      have h3 : m.testBit b = false := by
        rcases bit_cases (m := m) (a := b) with x | x
        · exact absurd ((bit_test hm62 (by omega)).2 x) h2
        · exact x
      have := hstay (by rw [h1, h3]; rfl)
      rw [this] at hr'
      exact ih (i + 1) _ (by omega) hm hr'
theorem implConn_l0 (n : Nat) (hn : 1 ≤ n ∧ n ≤ 6) (es : List E) (hl : es.length ≤ 1048576) (hes : ∀ e ∈ es, EOk n e) : ∀ (d i m : Nat), i + d = n → m < 2 ^ 6 → timesM es d m = timesM es n 1 → Ep (fun k => impl_connected.l0 k (n : Int) es (m : Int) (n : Int) (i : Int)) (· = joinedB n es) := by
  intro d
  induction d with
  | zero =>
    intro i m hi hm hr
    refine Ep.up ?_
    simp only [impl_connected.l0]
    refine Ep.neg (by omega) (Ep.pos (by omega) (Ep.now ?_))
    have hr' : m = timesM es n 1 := hr
    have hp : 1 ≤ 2 ^ n := Nat.one_le_two_pow
    have hp2 : 2 ^ n ≤ 2 ^ 6 := Nat.pow_le_pow_right (by decide) hn.2
    rw [shl_nat (by omega), wrap_id (by omega) (by omega)]
    rw [Bool.eq_iff_iff, joinedB_iff, ← times_joined hn.1 hes, ← hr']
    simp only [beq_iff_eq]
    omega
  | succ d ih =>
    intro i m hi hm hr
    refine Ep.up ?_
    simp only [impl_connected.l0]
    refine Ep.pos (by omega) ?_
    refine implConn_l1 n (by omega) es hl hes _ _ m ?_ es.length 0 m (by omega) hm (by rw [List.drop_zero])
    rw [wrap_succ (by omega)]
    exact ih (i + 1) _ (by omega) (round_lt (by omega) es hes hm) hr
theorem implConn (n : Nat) (hn : 1 ≤ n ∧ n ≤ 6) (es : List E) (hl : es.length ≤ 1048576) (hes : ∀ e ∈ es, EOk n e) : Ep (fun k => impl_connected.f k (n : Int) es) (· = joinedB n es) := by
  simp only [impl_connected.f]
  exact implConn_l0 n hn es hl hes n 0 1 (by omega) (by decide) rfl
end Go.Proofs.Ytjecgolakaiddaa.Cf
end

section
namespace Go.Proofs.Ytjecgolakaiddaa.P
open Go.RowKit Go.Proofs.YtjecgolakaiddaaW.PrintWords Go.Proofs.YtjecgolakaiddaaW.PrintLast Go.Proofs.YtjecgolakaiddaaW.PrintMore
attribute [local go_sem] max2_int min2_int max_two min_two max_three min_three max_four min_four
set_option linter.unusedVariables false
set_option linter.unusedSimpArgs false
def cmp_isNaN_int.f (a0 : Int) : Option (Bool) := some (a0 != a0)
set_option maxHeartbeats 8000000 in
set_option maxRecDepth 100000 in
theorem cmp_isNaN_int.calls (a0 : Int) (r : Bool) (w : World) (h : cmp_isNaN_int.f a0 = some r) :
    Calls Try.prog 199 #[.int .i64 a0] w fun e w' => e = .returned (.bool r) ∧ Drawn0 w w' := by
  have H : (some (a0 != a0)) = some r := h; clear h; obtain rfl := Option.some.inj H; go_enter Try.func199, Try.ntmps199; go_wp2; go_ret; exact ⟨by first | rfl | (simp; done) | (simp [*]; done), by repeat (first | exact Drawn0.refl _ | apply Drawn0.step)⟩
end Go.Proofs.Ytjecgolakaiddaa.P
end

section
namespace Go.Proofs.Ytjecgolakaiddaa.P
open Go.RowKit Go.Proofs.YtjecgolakaiddaaW.PrintWords Go.Proofs.YtjecgolakaiddaaW.PrintLast Go.Proofs.YtjecgolakaiddaaW.PrintMore
attribute [local go_sem] max2_int min2_int max_two min_two max_three min_three max_four min_four
set_option linter.unusedVariables false
set_option linter.unusedSimpArgs false
def cmp_Compare_int.f (a0 : Int) (a1 : Int) : Option (Int) := (cmp_isNaN_int.f a0).bind fun t101 => ((cmp_isNaN_int.f a1).bind fun t102 => (if t101 = true then (if t102 = true then (some 0) else (some (-1))) else (if t102 = true then (some 1) else (if a0 < a1 then (some (-1)) else (if a0 > a1 then (some 1) else (some 0))))))
set_option maxHeartbeats 8000000 in
set_option maxRecDepth 100000 in
theorem cmp_Compare_int.calls (a0 : Int) (a1 : Int) (r : Int) (w : World) (h : cmp_Compare_int.f a0 a1 = some r) :
    Calls Try.prog 198 #[.int .i64 a0, .int .i64 a1] w fun e w' => e = .returned (.int .i64 r) ∧ Drawn0 w w' := by
  have H : ((cmp_isNaN_int.f a0).bind fun t101 => ((cmp_isNaN_int.f a1).bind fun t102 => (if t101 = true then (if t102 = true then (some 0) else (some (-1))) else (if t102 = true then (some 1) else (if a0 < a1 then (some (-1)) else (if a0 > a1 then (some 1) else (some 0))))))) = some r := h; clear h; replace H := Option.bind_eq_some_iff.mp H; obtain ⟨t101, A30, H⟩ := H; replace H : ((cmp_isNaN_int.f a1).bind fun t102 => (if t101 = true then (if t102 = true then (some 0) else (some (-1))) else (if t102 = true then (some 1) else (if a0 < a1 then (some (-1)) else (if a0 > a1 then (some 1) else (some 0)))))) = some r := H; have A3 := Aside0.mk A30; clear A30; replace H := Option.bind_eq_some_iff.mp H; obtain ⟨t102, A40, H⟩ := H; replace H : (if t101 = true then (if t102 = true then (some 0) else (some (-1))) else (if t102 = true then (some 1) else (if a0 < a1 then (some (-1)) else (if a0 > a1 then (some 1) else (some 0))))) = some r := H; have A4 := Aside0.mk A40; clear A40; by_cases c5 : t101 = true
  · subst c5; (have H1 : (if t102 = true then (some 0) else (some (-1))) = some r := by rw [if_pos rfl] at H; exact H); clear H; have H := H1; clear H1; by_cases c6 : t102 = true
    · subst c6; (have H1 : (some 0) = some r := by rw [if_pos rfl] at H; exact H); clear H; have H := H1; clear H1; obtain rfl := Option.some.inj H; go_enter Try.func198, Try.ntmps198; (go_wp2_with (first | ((with_reducible refine gate_callee (f := 199) rfl ?_); refine goesL_ (some 8) rfl rfl Try.func199 (by kernel_rfl) rfl #[.int .i64 a0] rfl zz4 ?_; (with_reducible refine (cmp_isNaN_int.calls a0 true _ A3.out).mono ?_); rintro e w' ⟨rfl, ⟨nd, rfl⟩⟩; refine ⟨_, rfl, ?_⟩) | ((with_reducible refine gate_callee (f := 199) rfl ?_); refine goesL_ (some 10) rfl rfl Try.func199 (by kernel_rfl) rfl #[.int .i64 a1] rfl zz4 ?_; (with_reducible refine (cmp_isNaN_int.calls a1 true _ A4.out).mono ?_); rintro e w' ⟨rfl, ⟨nd, rfl⟩⟩; refine ⟨_, rfl, ?_⟩))); go_ret; exact ⟨by first | rfl | (simp; done) | (simp [*]; done), by repeat (first | exact Drawn0.refl _ | apply Drawn0.step)⟩
    replace c6 := Bool.eq_false_iff.mpr c6; subst c6; (have H1 : (some (-1)) = some r := by rw [if_neg (show ¬ (false = true) by decide)] at H; exact H); clear H; have H := H1; clear H1; obtain rfl := Option.some.inj H; go_enter Try.func198, Try.ntmps198; (go_wp2_with (first | ((with_reducible refine gate_callee (f := 199) rfl ?_); refine goesL_ (some 8) rfl rfl Try.func199 (by kernel_rfl) rfl #[.int .i64 a0] rfl zz4 ?_; (with_reducible refine (cmp_isNaN_int.calls a0 true _ A3.out).mono ?_); rintro e w' ⟨rfl, ⟨nd, rfl⟩⟩; refine ⟨_, rfl, ?_⟩) | ((with_reducible refine gate_callee (f := 199) rfl ?_); refine goesL_ (some 10) rfl rfl Try.func199 (by kernel_rfl) rfl #[.int .i64 a1] rfl zz4 ?_; (with_reducible refine (cmp_isNaN_int.calls a1 false _ A4.out).mono ?_); rintro e w' ⟨rfl, ⟨nd, rfl⟩⟩; refine ⟨_, rfl, ?_⟩))); go_ret; exact ⟨by first | rfl | (simp; done) | (simp [*]; done), by repeat (first | exact Drawn0.refl _ | apply Drawn0.step)⟩
  replace c5 := Bool.eq_false_iff.mpr c5; subst c5; (have H1 : (if t102 = true then (some 1) else (if a0 < a1 then (some (-1)) else (if a0 > a1 then (some 1) else (some 0)))) = some r := by rw [if_neg (show ¬ (false = true) by decide)] at H; exact H); clear H; have H := H1; clear H1; by_cases c7 : t102 = true
  · subst c7; (have H1 : (some 1) = some r := by rw [if_pos rfl] at H; exact H); clear H; have H := H1; clear H1; obtain rfl := Option.some.inj H; go_enter Try.func198, Try.ntmps198; (go_wp2_with (first | ((with_reducible refine gate_callee (f := 199) rfl ?_); refine goesL_ (some 8) rfl rfl Try.func199 (by kernel_rfl) rfl #[.int .i64 a0] rfl zz4 ?_; (with_reducible refine (cmp_isNaN_int.calls a0 false _ A3.out).mono ?_); rintro e w' ⟨rfl, ⟨nd, rfl⟩⟩; refine ⟨_, rfl, ?_⟩) | ((with_reducible refine gate_callee (f := 199) rfl ?_); refine goesL_ (some 10) rfl rfl Try.func199 (by kernel_rfl) rfl #[.int .i64 a1] rfl zz4 ?_; (with_reducible refine (cmp_isNaN_int.calls a1 true _ A4.out).mono ?_); rintro e w' ⟨rfl, ⟨nd, rfl⟩⟩; refine ⟨_, rfl, ?_⟩))); go_ret; exact ⟨by first | rfl | (simp; done) | (simp [*]; done), by repeat (first | exact Drawn0.refl _ | apply Drawn0.step)⟩
  replace c7 := Bool.eq_false_iff.mpr c7; subst c7; (have H1 : (if a0 < a1 then (some (-1)) else (if a0 > a1 then (some 1) else (some 0))) = some r := by rw [if_neg (show ¬ (false = true) by decide)] at H; exact H); clear H; have H := H1; clear H1; by_cases c8 : a0 < a1
  · rw [if_pos c8] at H; have c8b0 : decide (a0 < a1) = true := decide_eq_true c8; clear c8; obtain rfl := Option.some.inj H; go_enter Try.func198, Try.ntmps198; (go_wp2_with (first | ((with_reducible refine gate_callee (f := 199) rfl ?_); refine goesL_ (some 8) rfl rfl Try.func199 (by kernel_rfl) rfl #[.int .i64 a0] rfl zz4 ?_; (with_reducible refine (cmp_isNaN_int.calls a0 false _ A3.out).mono ?_); rintro e w' ⟨rfl, ⟨nd, rfl⟩⟩; refine ⟨_, rfl, ?_⟩) | ((with_reducible refine gate_callee (f := 199) rfl ?_); refine goesL_ (some 10) rfl rfl Try.func199 (by kernel_rfl) rfl #[.int .i64 a1] rfl zz4 ?_; (with_reducible refine (cmp_isNaN_int.calls a1 false _ A4.out).mono ?_); rintro e w' ⟨rfl, ⟨nd, rfl⟩⟩; refine ⟨_, rfl, ?_⟩))); go_ret; exact ⟨by first | rfl | (simp; done) | (simp [*]; done), by repeat (first | exact Drawn0.refl _ | apply Drawn0.step)⟩
  rw [if_neg c8] at H; have c8b0 : decide (a0 < a1) = false := decide_eq_false c8; clear c8; by_cases c9 : a0 > a1
  · rw [if_pos c9] at H; have c9b0 : decide (a1 < a0) = true := decide_eq_true c9; clear c9; obtain rfl := Option.some.inj H; go_enter Try.func198, Try.ntmps198; (go_wp2_with (first | ((with_reducible refine gate_callee (f := 199) rfl ?_); refine goesL_ (some 8) rfl rfl Try.func199 (by kernel_rfl) rfl #[.int .i64 a0] rfl zz4 ?_; (with_reducible refine (cmp_isNaN_int.calls a0 false _ A3.out).mono ?_); rintro e w' ⟨rfl, ⟨nd, rfl⟩⟩; refine ⟨_, rfl, ?_⟩) | ((with_reducible refine gate_callee (f := 199) rfl ?_); refine goesL_ (some 10) rfl rfl Try.func199 (by kernel_rfl) rfl #[.int .i64 a1] rfl zz4 ?_; (with_reducible refine (cmp_isNaN_int.calls a1 false _ A4.out).mono ?_); rintro e w' ⟨rfl, ⟨nd, rfl⟩⟩; refine ⟨_, rfl, ?_⟩))); go_ret; exact ⟨by first | rfl | (simp; done) | (simp [*]; done), by repeat (first | exact Drawn0.refl _ | apply Drawn0.step)⟩
  rw [if_neg c9] at H; have c9b0 : decide (a1 < a0) = false := decide_eq_false c9; clear c9; obtain rfl := Option.some.inj H; go_enter Try.func198, Try.ntmps198; (go_wp2_with (first | ((with_reducible refine gate_callee (f := 199) rfl ?_); refine goesL_ (some 8) rfl rfl Try.func199 (by kernel_rfl) rfl #[.int .i64 a0] rfl zz4 ?_; (with_reducible refine (cmp_isNaN_int.calls a0 false _ A3.out).mono ?_); rintro e w' ⟨rfl, ⟨nd, rfl⟩⟩; refine ⟨_, rfl, ?_⟩) | ((with_reducible refine gate_callee (f := 199) rfl ?_); refine goesL_ (some 10) rfl rfl Try.func199 (by kernel_rfl) rfl #[.int .i64 a1] rfl zz4 ?_; (with_reducible refine (cmp_isNaN_int.calls a1 false _ A4.out).mono ?_); rintro e w' ⟨rfl, ⟨nd, rfl⟩⟩; refine ⟨_, rfl, ?_⟩))); go_ret; exact ⟨by first | rfl | (simp; done) | (simp [*]; done), by repeat (first | exact Drawn0.refl _ | apply Drawn0.step)⟩
end Go.Proofs.Ytjecgolakaiddaa.P
end

section
namespace Go.Proofs.Ytjecgolakaiddaa.P
open Go.RowKit Go.Proofs.YtjecgolakaiddaaW.PrintWords Go.Proofs.YtjecgolakaiddaaW.PrintLast Go.Proofs.YtjecgolakaiddaaW.PrintMore
attribute [local go_sem] max2_int min2_int max_two min_two max_three min_three max_four min_four
set_option linter.unusedVariables false
set_option linter.unusedSimpArgs false
def impl_compareEdges.f (a0_0 : Int) (a0_1 : Int) (a1_0 : Int) (a1_1 : Int) : Option (Int) := (cmp_Compare_int.f a0_0 a1_0).bind fun t103 => (if t103 = 0 then ((cmp_Compare_int.f a0_1 a1_1).bind fun t104 => (some t104)) else (some t103))
set_option maxHeartbeats 8000000 in
set_option maxRecDepth 100000 in
theorem impl_compareEdges.calls (a0_0 : Int) (a0_1 : Int) (a1_0 : Int) (a1_1 : Int) (r : Int) (w : World) (h : impl_compareEdges.f a0_0 a0_1 a1_0 a1_1 = some r) :
    Calls Try.prog 196 #[.agg #[.int .i64 a0_0, .int .i64 a0_1], .agg #[.int .i64 a1_0, .int .i64 a1_1]] w fun e w' => e = .returned (.int .i64 r) ∧ Below w.heap.size w w' := by
  have hu70 := Try.underlying70; have HB := Aside0.mk (Below.refl w.heap.size w); have H : ((cmp_Compare_int.f a0_0 a1_0).bind fun t103 => (if t103 = 0 then ((cmp_Compare_int.f a0_1 a1_1).bind fun t104 => (some t104)) else (some t103))) = some r := h; clear h; replace H := Option.bind_eq_some_iff.mp H; obtain ⟨t103, A30, H⟩ := H; replace H : (if t103 = 0 then ((cmp_Compare_int.f a0_1 a1_1).bind fun t104 => (some t104)) else (some t103)) = some r := H; have A3 := Aside0.mk A30; clear A30; by_cases c4 : t103 = 0; rotate_left
  · rw [if_neg c4] at H; have c4b0 : (t103 == 0) = false := beq_eq_false_iff_ne.mpr c4; have c4b1 : (t103 != 0) = true := bne_iff_ne.mpr c4; obtain rfl := Option.some.inj H; go_enter Try.func196, Try.ntmps196; (go_wp2_with (first | ((with_reducible refine gate_dst (N := 2) rfl ?_); refine box_event ?hg (N := 2) ?hd (cs := #[.int .i64 a0_0, .int .i64 a0_1]) (t := 70) ?hr ?_; (case hd => rfl); (case hg => rfl); (case hr => first | (go_simp; done) | (go_simp; rfl)); intro gb101 hg w11 hbox hb; have n0_ := Aside0.mk (below_step zz1 hb); have n1_ := Aside0.mk (hbox); have n2_ := Aside0.mk ((zz7 : w.heap.size ≤ gb101)); have n3_ := Aside0.mk ((zz7 : w.heap.size ≤ gb101)); clear HB; have HB := n0_; have BK101 := n1_; have GW101 := n2_; have GE101 := n3_; clear n0_ n1_ n2_ n3_; clear hb hbox hg) | ((with_reducible refine gate_dst (N := 3) rfl ?_); refine box_event ?hg (N := 3) ?hd (cs := #[.int .i64 a1_0, .int .i64 a1_1]) (t := 70) ?hr ?_; (case hd => rfl); (case hg => rfl); (case hr => first | (go_simp; done) | (go_simp; rfl)); intro gb102 hg w12 hbox hb; have n0_ := Aside0.mk (blk_below (g := gb101) (o := .cells #[.int .i64 a0_0, .int .i64 a0_1] 70 (0, 0)) zz2 hb); have n1_ := Aside0.mk (below_step zz0 hb); have n2_ := Aside0.mk (hbox); have n3_ := Aside0.mk ((zz8 : w.heap.size ≤ gb102)); have n4_ := Aside0.mk ((zz8 : w.heap.size ≤ gb102)); have n5_ := Aside0.mk ((zz26 : gb101 ≠ gb102)); have n6_ := Aside0.mk ((zz27 : gb102 ≠ gb101)); clear BK101; clear HB; have BK101 := n0_; have HB := n1_; have BK102 := n2_; have GW102 := n3_; have GE102 := n4_; have NB101_102 := n5_; have NB102_101 := n6_; clear n0_ n1_ n2_ n3_ n4_ n5_ n6_; clear hb hbox hg; have hnb13 := NB101_102.out; have hnc13 := NB102_101.out; have hcz14_0 : w12.cell? ⟨gb101, 0, none⟩ = some (.int .i64 a0_0) := (blk_cell BK101.out 0).trans rfl; have hcz14_1 : w12.cell? ⟨gb101, 1, none⟩ = some (.int .i64 a0_1) := (blk_cell BK101.out 1).trans rfl; have hfz14_0 := blk_frozen BK101.out 0; have hfz14_1 := blk_frozen BK101.out 1; have hcz15_0 : w12.cell? ⟨gb102, 0, none⟩ = some (.int .i64 a1_0) := (blk_cell BK102.out 0).trans rfl; have hcz15_1 : w12.cell? ⟨gb102, 1, none⟩ = some (.int .i64 a1_1) := (blk_cell BK102.out 1).trans rfl; have hfz15_0 := blk_frozen BK102.out 0; have hfz15_1 := blk_frozen BK102.out 1) | ((with_reducible refine gate_callee (f := 198) rfl ?_); refine goesL_ (some 10) rfl rfl Try.func198 (by kernel_rfl) rfl #[.int .i64 a0_0, .int .i64 a1_0] rfl zz4 ?_; (with_reducible refine (cmp_Compare_int.calls a0_0 a1_0 t103 _ A3.out).mono ?_); rintro e w' ⟨rfl, ⟨nd, rfl⟩⟩; refine ⟨_, rfl, ?_⟩))); go_ret; exact ⟨by first | rfl | (simp [errW_none, errW_some] <;> rfl) | (simp [*, errW_none, errW_some] <;> rfl), by repeat (first | (with_reducible first | exact HB.out | apply below_alloc | apply pw_below_drewN | apply below_drew1 | refine below_set ?_ GE101.out | refine below_set ?_ GE102.out) | exact HB.out)⟩
  rw [if_pos c4] at H; have c4b0 : (t103 == 0) = true := beq_iff_eq.mpr c4; have c4b1 : (t103 != 0) = false := bne_eq_false_iff_eq.mpr c4; clear c4; replace H := Option.bind_eq_some_iff.mp H; obtain ⟨t104, A50, H⟩ := H; replace H : (some t104) = some r := H; have A5 := Aside0.mk A50; clear A50; obtain rfl := Option.some.inj H; go_enter Try.func196, Try.ntmps196; (go_wp2_with (first | ((with_reducible refine gate_dst (N := 2) rfl ?_); refine box_event ?hg (N := 2) ?hd (cs := #[.int .i64 a0_0, .int .i64 a0_1]) (t := 70) ?hr ?_; (case hd => rfl); (case hg => rfl); (case hr => first | (go_simp; done) | (go_simp; rfl)); intro gb101 hg w6 hbox hb; have n0_ := Aside0.mk (below_step zz1 hb); have n1_ := Aside0.mk (hbox); have n2_ := Aside0.mk ((zz7 : w.heap.size ≤ gb101)); have n3_ := Aside0.mk ((zz7 : w.heap.size ≤ gb101)); clear HB; have HB := n0_; have BK101 := n1_; have GW101 := n2_; have GE101 := n3_; clear n0_ n1_ n2_ n3_; clear hb hbox hg) | ((with_reducible refine gate_dst (N := 3) rfl ?_); refine box_event ?hg (N := 3) ?hd (cs := #[.int .i64 a1_0, .int .i64 a1_1]) (t := 70) ?hr ?_; (case hd => rfl); (case hg => rfl); (case hr => first | (go_simp; done) | (go_simp; rfl)); intro gb102 hg w7 hbox hb; have n0_ := Aside0.mk (blk_below (g := gb101) (o := .cells #[.int .i64 a0_0, .int .i64 a0_1] 70 (0, 0)) zz2 hb); have n1_ := Aside0.mk (below_step zz0 hb); have n2_ := Aside0.mk (hbox); have n3_ := Aside0.mk ((zz8 : w.heap.size ≤ gb102)); have n4_ := Aside0.mk ((zz8 : w.heap.size ≤ gb102)); have n5_ := Aside0.mk ((zz26 : gb101 ≠ gb102)); have n6_ := Aside0.mk ((zz27 : gb102 ≠ gb101)); clear BK101; clear HB; have BK101 := n0_; have HB := n1_; have BK102 := n2_; have GW102 := n3_; have GE102 := n4_; have NB101_102 := n5_; have NB102_101 := n6_; clear n0_ n1_ n2_ n3_ n4_ n5_ n6_; clear hb hbox hg; have hnb8 := NB101_102.out; have hnc8 := NB102_101.out; have hcz9_0 : w7.cell? ⟨gb101, 0, none⟩ = some (.int .i64 a0_0) := (blk_cell BK101.out 0).trans rfl; have hcz9_1 : w7.cell? ⟨gb101, 1, none⟩ = some (.int .i64 a0_1) := (blk_cell BK101.out 1).trans rfl; have hfz9_0 := blk_frozen BK101.out 0; have hfz9_1 := blk_frozen BK101.out 1; have hcz10_0 : w7.cell? ⟨gb102, 0, none⟩ = some (.int .i64 a1_0) := (blk_cell BK102.out 0).trans rfl; have hcz10_1 : w7.cell? ⟨gb102, 1, none⟩ = some (.int .i64 a1_1) := (blk_cell BK102.out 1).trans rfl; have hfz10_0 := blk_frozen BK102.out 0; have hfz10_1 := blk_frozen BK102.out 1) | ((with_reducible refine gate_callee (f := 198) rfl ?_); refine goesL_ (some 10) rfl rfl Try.func198 (by kernel_rfl) rfl #[.int .i64 a0_0, .int .i64 a1_0] rfl zz4 ?_; (with_reducible refine (cmp_Compare_int.calls a0_0 a1_0 t103 _ A3.out).mono ?_); rintro e w' ⟨rfl, ⟨nd, rfl⟩⟩; refine ⟨_, rfl, ?_⟩) | ((with_reducible refine gate_callee (f := 198) rfl ?_); refine goesL_ (some 18) rfl rfl Try.func198 (by kernel_rfl) rfl #[.int .i64 a0_1, .int .i64 a1_1] rfl zz4 ?_; (with_reducible refine (cmp_Compare_int.calls a0_1 a1_1 t104 _ A5.out).mono ?_); rintro e w' ⟨rfl, ⟨nd, rfl⟩⟩; refine ⟨_, rfl, ?_⟩))); go_ret; exact ⟨by first | rfl | (simp [errW_none, errW_some] <;> rfl) | (simp [*, errW_none, errW_some] <;> rfl), by repeat (first | (with_reducible first | exact HB.out | apply below_alloc | apply pw_below_drewN | apply below_drew1 | refine below_set ?_ GE101.out | refine below_set ?_ GE102.out) | exact HB.out)⟩
end Go.Proofs.Ytjecgolakaiddaa.P
end

section
namespace Go.Proofs.Ytjecgolakaiddaa.Cf
set_option linter.unusedVariables false
set_option linter.unusedSimpArgs false
open Go.RowKit Go.Proofs.YtjecgolakaiddaaW.PrintWords Go.Proofs.YtjecgolakaiddaaW.PrintLast Go.Proofs.YtjecgolakaiddaaW.PrintMore Go.Proofs.Ytjecgolakaiddaa.P
def cmpI (a b : Int) : Int := if a < b then -1 else if a > b then 1 else 0
theorem cmp_eq (a b : Int) : cmp_Compare_int.f a b = some (cmpI a b) := by
  unfold cmp_Compare_int.f cmp_isNaN_int.f cmpI
  simp
  split <;> (try split) <;> rfl
def cmpE (a b : E) : Int := if cmpI a.f0 b.f0 = 0 then cmpI a.f1 b.f1 else cmpI a.f0 b.f0
theorem cmpE_eq (a b : E) : impl_compareEdges.f a.f0 a.f1 b.f0 b.f1 = some (cmpE a b) := by
  unfold impl_compareEdges.f cmpE
  rw [cmp_eq, cmp_eq]
  simp only [Option.bind_some]
  split <;> rfl
theorem cmpE_lt (a b : E) : cmpE a b < 0 ↔ ¬ leE b a := by
  unfold cmpE cmpI leE
  by_cases h : a.f0 < b.f0
  · simp [h]; try omega
  · by_cases h2 : a.f0 > b.f0
    · simp [h, h2]; try omega
    · by_cases h3 : a.f1 < b.f1
      · simp [h, h2, h3]; try omega
      · by_cases h4 : a.f1 > b.f1
        · simp [h, h2, h3, h4]; try omega
        · simp [h, h2, h3, h4]; try omega
open Classical in
noncomputable def sortedB (es : List E) : Bool := decide (Sorted es)
theorem sortedB_iff {es : List E} : sortedB es = true ↔ Sorted es := by unfold sortedB; simp
/-- Sorted from an index on. -/
def SortedFrom (es : List E) (i : Nat) : Prop := ∀ j, i ≤ j → (h : j + 1 < es.length) → leE es[j] es[j + 1]
theorem SortedFrom.all {es : List E} (h : SortedFrom es 0) : sortedB es = true := sortedB_iff.2 (fun j hj => h j (Nat.zero_le _) hj)
theorem SortedFrom.none {es : List E} {i : Nat} (h : i + 1 < es.length) (hn : ¬ leE es[i] es[i + 1]) : sortedB es = false := by
  cases hb : sortedB es with
  | false => rfl
  | true => exact absurd (sortedB_iff.1 hb i h) hn
theorem SortedFrom.down {es : List E} {i : Nat} (h : SortedFrom es (i + 1)) (hi : i + 1 < es.length) (hl : leE es[i] es[i + 1]) : SortedFrom es i := by
  intro j hj hjl
  by_cases e : j = i
  · subst e; exact hl
  · exact h j (by omega) hjl
set_option maxHeartbeats 2000000 in
set_option maxRecDepth 100000 in
theorem isf_calls (es : List E) (A : Option Addr) (c : Nat) (w : World) (hr : Kd.C k70 w A es.length es) (hc : es.length ≤ c) :
    Calls Try.prog 195 #[.slice A es.length c, .func (.func 196) #[] #[]] w fun e w' => e = .returned (.bool (sortedB es)) ∧ Below w.heap.size w w' := by
  have hlen := hr.2.1
  have HR := Aside0.mk hr
  have HL := Aside0.mk hlen
  clear hr hlen
  have HB := Aside0.mk (Below.refl w.heap.size w)
  go_enter Try.func195, Try.ntmps195
  go_wp2
  go_loopw [5] (fun v wr => ∃ i : Int, v = .int .i64 i ∧ Aside0 (-1 ≤ i ∧ i < es.length ∧ SortedFrom es i.toNat) ∧ Aside0 (Below w.heap.size w wr)) (fun v _ => (intOf v + 1).toNat)
  case atStart => exact ⟨(es.length : Int) - 1, by rw [wrap_id (by have := HL.out; omega) (by have := HL.out; omega)], ⟨by omega, by omega, fun j hj hjl => by omega⟩, HB⟩
  case round =>
    obtain ⟨i, rfl, HI, HB⟩ := hrel
    by_cases h0 : 0 < i
    · obtain ⟨j, hij⟩ : ∃ j : Nat, i = (j : Int) + 1 := ⟨(i - 1).toNat, by omega⟩
      have hj := HI.out.2.1
      have hl := HL.out
      have hw : wrap64 (i - 1) = (j : Int) := by rw [wrap_id (by omega) (by omega)]; omega
      have p1 : 0 ≤ i := by omega
      have p2 : 0 ≤ wrap64 (i - 1) := by omega
      have q2 : wrap64 (i - 1) < (es.length : Int) := by omega
      obtain ⟨ad, e, hx0, hx1⟩ := at_T70 HR.out i p1 hj
      cases e
      obtain ⟨ad', e, hy0, hy1⟩ := at_T70 HR.out (wrap64 (i - 1)) p2 q2
      cases e
      replace hx0 := (HB.out.cell (World.block_lt_of_cell? w _ hx0)).trans hx0
      replace hx1 := (HB.out.cell (World.block_lt_of_cell? w _ hx1)).trans hx1
      replace hy0 := (HB.out.cell (World.block_lt_of_cell? w _ hy0)).trans hy0
      replace hy1 := (HB.out.cell (World.block_lt_of_cell? w _ hy1)).trans hy1
      have c0 : decide (0 < i) = true := decide_eq_true h0
      replace p1 := eq_true p1
      have q1 := eq_true hj
      replace p2 := eq_true p2
      replace q2 := eq_true q2
      have HW := Aside0.mk hw
      have HIJ := Aside0.mk hij
      clear hj hl hw hij h0
      go_wp2
      go_still_tail 10, (by kernel_rfl)
      simp only [i64_w]
      repeat still_step
      refine wpStill_nil ?_
      change wpList _ _ _ _ _ wr.drew
      have HB' := Aside0.mk (below_drew1 HB.out)
      clear HB hx0 hx1 hy0 hy1
      generalize wr.drew = w2 at HB' ⊢
      have HX := Aside0.mk (cmpE_eq (rd_T70 es i) (rd_T70 es (wrap64 (i - 1))))
      have HC := Aside0.mk (cmpE_lt (rd_T70 es i) (rd_T70 es (wrap64 (i - 1))))
      generalize cmpE (rd_T70 es i) (rd_T70 es (wrap64 (i - 1))) = z at HX HC
      have HE : Aside0 (∃ hj : j + 1 < es.length, rd_T70 es i = es[j + 1] ∧ rd_T70 es (wrap64 (i - 1)) = es[j]) := by
        have hj : j + 1 < es.length := by
          have := HI.out.2.1
          have := HIJ.out
          omega
        have e1 : i = ((j + 1 : Nat) : Int) := by have := HIJ.out; omega
        refine ⟨hj, ?_, ?_⟩
        · rw [e1, rdE_get hj]
        · rw [HW.out, rdE_get (by omega)]
      by_cases hz : z < 0
      · have cz : decide (z < 0) = true := decide_eq_true hz
        have HZ := Aside0.mk hz
        clear hz
        go_wp2_with fail
        refine (impl_compareEdges.calls _ _ _ _ z _ HX.out).mono ?_
        rintro e w3 ⟨rfl, hb⟩
        go_wp2
        go_ret
        obtain ⟨hj, e1, e2⟩ := HE.out
        have hs := SortedFrom.none hj (by rw [← e1, ← e2]; exact HC.out.1 HZ.out)
        exact ⟨by rw [hs]; rfl, below_step HB'.out hb⟩
      · have cz : decide (z < 0) = false := decide_eq_false hz
        have HZ := Aside0.mk hz
        clear hz
        go_wp2_with fail
        refine (impl_compareEdges.calls _ _ _ _ z _ HX.out).mono ?_
        rintro e w3 ⟨rfl, hb⟩
        have HB2 := Aside0.mk (below_step HB'.out hb)
        clear hb
        go_wp2
        go_roundw
        case rel =>
          have hi := HI.out
          have hw := HW.out
          have hij := HIJ.out
          refine ⟨wrap64 (i - 1), rfl, ⟨by omega, by omega, ?_⟩, HB2⟩
          obtain ⟨hj, e1, e2⟩ := HE.out
          have hle : leE es[j] es[j + 1] := by
            rw [← e1, ← e2]
            apply Classical.byContradiction
            intro hn
            have h1 := HC.out.2 hn
            have h2 := HZ.out
            omega
          rw [hw, Int.toNat_natCast]
          refine SortedFrom.down ?_ hj hle
          have := hi.2.2
          rw [hij, show ((j : Int) + 1).toNat = j + 1 by omega] at this
          exact this
        case measure =>
          have hi := HI.out
          have hw := HW.out
          have hij := HIJ.out
          simp [intOf]
          omega
    · have c0 : decide (0 < i) = false := decide_eq_false h0
      have HZ := Aside0.mk h0
      clear h0
      go_wp2
      go_ret
      have := HI.out
      have h0 := HZ.out
      have hs : SortedFrom es i.toNat := this.2.2
      rw [show i.toNat = 0 by omega] at hs
      have ha := hs.all
      exact ⟨by rw [ha]; rfl, HB.out⟩
end Go.Proofs.Ytjecgolakaiddaa.Cf
end

section
namespace Go.Proofs.Ytjecgolakaiddaa.P
open Go.RowKit Go.Proofs.YtjecgolakaiddaaW.PrintWords Go.Proofs.YtjecgolakaiddaaW.PrintLast Go.Proofs.YtjecgolakaiddaaW.PrintMore
attribute [local go_sem] max2_int min2_int max_two min_two max_three min_three max_four min_four
set_option linter.unusedVariables false
set_option linter.unusedSimpArgs false
def impl_GraphOk.f (a0_0 : Int) (l0_1 : List (S70)) : Option Bool := some (Cf.gOk a0_0 l0_1)
set_option maxHeartbeats 2000000 in
set_option maxRecDepth 100000 in
theorem impl_GraphOk.calls (a0_0 : Int) (A0_1 : Option Addr) (c0_1 : Nat) (l0_1 : List (S70)) (r : Bool) (w : World) (hr0_1 : Kd.C k70 w A0_1 l0_1.length l0_1) (hc0_1 : l0_1.length ≤ c0_1) (h : impl_GraphOk.f a0_0 l0_1 = some r) :
    Calls Try.prog 173 #[.agg #[.int .i64 a0_0, .slice A0_1 l0_1.length c0_1]] w fun e w' => e = .returned (.bool r) ∧ Below w.heap.size w w' := by
  obtain rfl := Option.some.inj h; clear h; obtain ⟨k1, hk1⟩ := (Cf.implEdges a0_0 l0_1).rounds; have HR := Aside0.mk hr0_1; have HK1 := Aside0.mk hk1; clear hr0_1 hk1; go_enter Try.func173, Try.ntmps173; have HB := Aside0.mk (below_alloc (Below.refl w.heap.size w) (.cells #[.int .i64 a0_0, .slice A0_1 l0_1.length c0_1] 38)); have BK := Aside0.mk (heap_alloc_new w (.cells #[.int .i64 a0_0, .slice A0_1 l0_1.length c0_1] 38)); by_cases he : Cf.EsOk a0_0 l0_1; rotate_left
  · have HE := Aside0.mk he; replace HK1 := Aside0.mk (HK1.out.trans (congrArg some (decide_eq_false he))); clear he; (go_wp2_with fail); refine (impl_EdgesOk.calls k1 _ _ _ l0_1 false _ (Kd.C_below HR.out HB.out) hc0_1 HK1.out).mono ?_; rintro e w1 ⟨rfl, hb⟩; have HB1 := Aside0.mk (below_step HB.out hb); clear hb; go_wp2; go_ret
    have hg : Cf.gOk a0_0 l0_1 = false := by
      cases hb : Cf.gOk a0_0 l0_1 with
      | false => rfl
      | true => exact absurd (Cf.gOk_iff.1 hb).1 HE.out
    exact ⟨by rw [hg]; rfl, HB1.out⟩
  have HE := Aside0.mk he; replace HK1 := Aside0.mk (HK1.out.trans (congrArg some (decide_eq_true he))); clear he; (go_wp2_with fail); refine (impl_EdgesOk.calls k1 _ _ _ l0_1 true _ (Kd.C_below HR.out HB.out) hc0_1 HK1.out).mono ?_; rintro e w1 ⟨rfl, hb⟩; have HB1 := Aside0.mk (below_step HB.out hb); have BK1 := Aside0.mk (blk_below BK.out hb); clear hb; have hz0 : w1.cell? ⟨w.heap.size, 0, none⟩ = some (.int .i64 a0_0) := (blk_cell BK1.out 0).trans rfl; have hz1 : w1.cell? ⟨w.heap.size, 1, none⟩ = some (.slice A0_1 l0_1.length c0_1) := (blk_cell BK1.out 1).trans rfl; (go_wp2_with fail); have HS := Aside0.mk (Cf.isf_calls l0_1 A0_1 c0_1 w1 (Kd.C_below HR.out HB1.out) hc0_1); by_cases hs : Cf.Sorted l0_1; rotate_left
  · have hsb : Cf.sortedB l0_1 = false := by
      cases hb : Cf.sortedB l0_1 with
      | false => rfl
      | true => exact absurd (Cf.sortedB_iff.1 hb) hs
    rw [hsb] at HS; have HSo := Aside0.mk hs; clear hs hsb; refine HS.out.mono ?_; rintro e w2 ⟨rfl, hb⟩; have HB2 := Aside0.mk (below_step HB1.out hb); clear hb hz0 hz1; go_wp2; go_ret
    have hg : Cf.gOk a0_0 l0_1 = false := by
      cases hb : Cf.gOk a0_0 l0_1 with
      | false => rfl
      | true => exact absurd (Cf.gOk_iff.1 hb).2.1 HSo.out
    exact ⟨by rw [hg]; rfl, HB2.out⟩
  have HSo := Aside0.mk hs; rw [Cf.sortedB_iff.2 hs] at HS; clear hs; refine HS.out.mono ?_; rintro e w2 ⟨rfl, hb⟩; have HB2 := Aside0.mk (below_step HB1.out hb); have BK2 := Aside0.mk (blk_below BK1.out hb); clear hb hz0 hz1; have hz0 : w2.cell? ⟨w.heap.size, 0, none⟩ = some (.int .i64 a0_0) := (blk_cell BK2.out 0).trans rfl; have hz1 : w2.cell? ⟨w.heap.size, 1, none⟩ = some (.slice A0_1 l0_1.length c0_1) := (blk_cell BK2.out 1).trans rfl; (go_wp2_with fail); obtain ⟨h1, h6, hl, hes⟩ := HE.out; obtain ⟨n, rfl⟩ := Int.eq_ofNat_of_zero_le (a := a0_0) (by omega); obtain ⟨k2, hk2⟩ := (Cf.implConn n ⟨by omega, by omega⟩ l0_1 (by omega) hes).rounds; refine (impl_connected.calls k2 _ _ _ l0_1 (Cf.joinedB n l0_1) _ (Kd.C_below HR.out HB2.out) hc0_1 hk2).mono ?_; rintro e w3 ⟨rfl, hd⟩; have HB3 := Aside0.mk (below_step HB2.out hd); clear hd hk2 h1 h6 hl hes
  have hg : Cf.gOk n l0_1 = Cf.joinedB n l0_1 := by
    rw [Bool.eq_iff_iff, Cf.gOk_iff, Cf.joinedB_iff]; exact ⟨fun h => h.2.2, fun h => ⟨HE.out, HSo.out, h⟩⟩
  have HG := Aside0.mk hg; clear hg; generalize Cf.joinedB n l0_1 = z at HG ⊢; cases z
  · go_wp2; go_ret; exact ⟨by rw [HG.out]; rfl, HB3.out⟩
  · go_wp2; go_ret; exact ⟨by rw [HG.out]; rfl, HB3.out⟩
end Go.Proofs.Ytjecgolakaiddaa.P
end

section
namespace Go.Proofs.Ytjecgolakaiddaa.P
open Go.RowKit Go.Proofs.YtjecgolakaiddaaW.PrintWords Go.Proofs.YtjecgolakaiddaaW.PrintLast Go.Proofs.YtjecgolakaiddaaW.PrintMore
attribute [local go_sem] max2_int min2_int max_two min_two max_three min_three max_four min_four
set_option linter.unusedVariables false
set_option linter.unusedSimpArgs false
def impl_allWithin.l0 : Nat → Int → Int → List Int → Int → Int → Option (Bool)
  | 0, _, _, _, _, _ => none
  | k + 1, x1, x2, x9, x10, x11 => if x11 < x10 then (if 0 ≤ x11 then (if x11 < (x9.length : Int) then ((impl_within.f (rd x9 x11) x1 x2).bind fun t102 => (if t102 = true then (impl_allWithin.l0 k x1 x2 x9 x10 (wrap64 (x11 + 1))) else (some false))) else (none)) else (none)) else (some true)
def impl_allWithin.f (k : Nat) (l0 : List Int) (a1 : Int) (a2 : Int) : Option (Bool) := impl_allWithin.l0 k a1 a2 l0 (l0.length : Int) 0
theorem impl_allWithin.mono_l : ∀ k, (∀ y0 y1 y2 y3 y4, LeO (impl_allWithin.l0 k y0 y1 y2 y3 y4) (impl_allWithin.l0 (k + 1) y0 y1 y2 y3 y4))
  | 0 => fun _ _ _ _ _ r h => by simp [impl_allWithin.l0] at h
  | k + 1 => by
    have ih0 := impl_allWithin.mono_l k
    · intro y0 y1 y2 y3 y4
      unfold impl_allWithin.l0
      repeat' first
      | (with_reducible exact ih0 _ _ _ _ _)
      | (with_reducible exact LeO.refl _)
      | (with_reducible exact LeO.none _)
      | (with_reducible refine LeO.ite ?_ ?_)
      | (with_reducible refine LeO.bind ?_ (fun _ => ?_))
      | exact ih0 _ _ _ _ _
      | exact LeO.none _
      | refine LeO.ite ?_ ?_
      | refine LeO.bind ?_ (fun _ => ?_)
theorem impl_allWithin.mono : ∀ a0 a1 a2 k, LeO (impl_allWithin.f k a0 a1 a2) (impl_allWithin.f (k + 1) a0 a1 a2) := by
  intro a0 a1 a2 k; have ih0 := impl_allWithin.mono_l k; unfold impl_allWithin.f
  repeat' first
      | (with_reducible exact ih0 _ _ _ _ _)
      | (with_reducible exact LeO.refl _)
      | (with_reducible exact LeO.none _)
      | (with_reducible refine LeO.ite ?_ ?_)
      | (with_reducible refine LeO.bind ?_ (fun _ => ?_))
      | exact ih0 _ _ _ _ _
      | exact LeO.none _
      | refine LeO.ite ?_ ?_
      | refine LeO.bind ?_ (fun _ => ?_)
set_option maxHeartbeats 8000000 in
set_option maxRecDepth 100000 in
theorem impl_allWithin.calls (k : Nat) (A0 : Option Addr) (c0 : Nat) (l0 : List Int) (a1 : Int) (a2 : Int) (r : Bool) (w : World) (hr0 : Kd.C (Kd.int .i64) w A0 l0.length l0) (hc0 : l0.length ≤ c0) (h : impl_allWithin.f k l0 a1 a2 = some r) :
    Calls Try.prog 162 #[.slice A0 l0.length c0, .int .i64 a1, .int .i64 a2] w fun e w' => e = .returned (.bool r) ∧ Drawn0 w w' := by
  have HR0 := Aside0.mk hr0; have HC0 := Aside0.mk hc0; clear hr0 hc0; have H : (impl_allWithin.l0 k a1 a2 l0 (l0.length : Int) 0) = some r := h; clear h; have H' := Aside0.mk H; clear H; go_enter Try.func162, Try.ntmps162; go_wp2; (go_loopg [11] k (fun kq v11 w' => ∃ (x11_1 : Int), v11 = .int .i64 x11_1 ∧ Aside0 (impl_allWithin.l0 kq a1 a2 l0 (l0.length : Int) x11_1 = some r) ∧ Aside0 (kq ≤ k) ∧ Drawn0 w w')); case atStart => exact ⟨(0), zz6, H', ⟨Nat.le_refl _⟩, by repeat (first | exact Drawn0.refl _ | apply Drawn0.step)⟩
  case round =>
    clear H'; (try clear c1); (try clear p2); obtain ⟨x11_1, rfl, HA, HK1, ⟨m1, rfl⟩⟩ := hrel
    cases gk with
    | zero => exact absurd HA.out (by simp [impl_allWithin.l0])
    | succ k1 =>
      have H := HA.out; clear HA; simp only [impl_allWithin.l0] at H; by_cases c4 : x11_1 < (l0.length : Int); rotate_left
      · rw [if_neg c4] at H; have c4b0 : decide (x11_1 < (l0.length : Int)) = false := decide_eq_false c4; clear c4; obtain rfl := Option.some.inj H; go_wp2; go_ret; exact ⟨by first | rfl | (simp; done) | (simp [*]; done), by repeat (first | exact Drawn0.refl _ | apply Drawn0.step)⟩
      rw [if_pos c4] at H; have c4b0 : decide (x11_1 < (l0.length : Int)) = true := decide_eq_true c4; clear c4; by_cases c5 : 0 ≤ x11_1; rotate_left
      · rw [if_neg c5] at H; exact absurd H (by simp)
      rw [if_pos c5] at H; have c5b0 : decide (0 ≤ x11_1) = true := decide_eq_true c5; clear c5; by_cases c6 : x11_1 < (l0.length : Int); rotate_left
      · rw [if_neg c6] at H; exact absurd H (by simp)
      rw [if_pos c6] at H; have c6b0 : decide (x11_1 < (l0.length : Int)) = true := decide_eq_true c6; clear c6; replace H := Option.bind_eq_some_iff.mp H; obtain ⟨t102, A70, H⟩ := H; replace H : (if t102 = true then (impl_allWithin.l0 k1 a1 a2 l0 (l0.length : Int) (wrap64 (x11_1 + 1))) else (some false)) = some r := H; have A7 := Aside0.mk A70; clear A70; by_cases c8 : t102 = true; rotate_left
      · replace c8 := Bool.eq_false_iff.mpr c8; subst c8; (have H1 : (some false) = some r := by rw [if_neg (show ¬ (false = true) by decide)] at H; exact H); clear H; have H := H1; clear H1; obtain rfl := Option.some.inj H; have p101 : 0 ≤ (x11_1 : Int) := of_decide_eq_true zz3; have q101 : x11_1 < (l0.length : Int) := of_decide_eq_true zz3; obtain ⟨ad101, e101, hx101_0⟩ := Kd.at_int HR0.out x11_1 p101 q101; cases e101; replace p101 := eq_true p101; replace q101 := eq_true q101; (go_wp2_with (first | ((with_reducible refine gate_callee (f := 123) rfl ?_); refine goesL_ (some 18) rfl rfl Try.func123 (by kernel_rfl) rfl #[.int .i64 (rd l0 x11_1), .int .i64 a1, .int .i64 a2] rfl zz4 ?_; (with_reducible refine (impl_within.calls (rd l0 x11_1) a1 a2 false _ A7.out).mono ?_); rintro e w' ⟨rfl, ⟨nd, rfl⟩⟩; refine ⟨_, rfl, ?_⟩))); go_ret; exact ⟨by first | rfl | (simp; done) | (simp [*]; done), by repeat (first | exact Drawn0.refl _ | apply Drawn0.step)⟩
      subst c8; (have H1 : (impl_allWithin.l0 k1 a1 a2 l0 (l0.length : Int) (wrap64 (x11_1 + 1))) = some r := by rw [if_pos rfl] at H; exact H); clear H; have H := H1; clear H1; have H' := Aside0.mk H; clear H; have p101 : 0 ≤ (x11_1 : Int) := of_decide_eq_true zz3; have q101 : x11_1 < (l0.length : Int) := of_decide_eq_true zz3; obtain ⟨ad101, e101, hx101_0⟩ := Kd.at_int HR0.out x11_1 p101 q101; cases e101; replace p101 := eq_true p101; replace q101 := eq_true q101; (go_wp2_with (first | ((with_reducible refine gate_callee (f := 123) rfl ?_); refine goesL_ (some 18) rfl rfl Try.func123 (by kernel_rfl) rfl #[.int .i64 (rd l0 x11_1), .int .i64 a1, .int .i64 a2] rfl zz4 ?_; (with_reducible refine (impl_within.calls (rd l0 x11_1) a1 a2 true _ A7.out).mono ?_); rintro e w' ⟨rfl, ⟨nd, rfl⟩⟩; refine ⟨_, rfl, ?_⟩))); go_roundg k1; (case measure => have := HK1.out; omega); case rel => exact ⟨(wrap64 (x11_1 + 1)), zz6, H', ⟨by have := HK1.out; omega⟩, by repeat (first | exact Drawn0.refl _ | apply Drawn0.step)⟩
end Go.Proofs.Ytjecgolakaiddaa.P
end

section
namespace Go.Proofs.Ytjecgolakaiddaa.P
open Go.RowKit Go.Proofs.YtjecgolakaiddaaW.PrintWords Go.Proofs.YtjecgolakaiddaaW.PrintLast Go.Proofs.YtjecgolakaiddaaW.PrintMore
attribute [local go_sem] max2_int min2_int max_two min_two max_three min_three max_four min_four
set_option linter.unusedVariables false
set_option linter.unusedSimpArgs false
def impl_DivisorOk.f (k : Nat) (a0_0 : Int) (l0_1 : List (S70)) (l1 : List Int) : Option (Bool) := (impl_GraphOk.f a0_0 l0_1).bind fun t102 => (if t102 = true then (if (l1.length : Int) = a0_0 then ((impl_allWithin.f k l1 (-60) 60).bind fun t103 => (some t103)) else (some false)) else (some false))
theorem impl_DivisorOk.mono : ∀ a0 a1 a2 k, LeO (impl_DivisorOk.f k a0 a1 a2) (impl_DivisorOk.f (k + 1) a0 a1 a2) := by
  intro a0 a1 a2 k; unfold impl_DivisorOk.f
  repeat' first
      | (with_reducible exact impl_allWithin.mono _ _ _ _)
      | (with_reducible exact LeO.refl _)
      | (with_reducible exact LeO.none _)
      | (with_reducible refine LeO.ite ?_ ?_)
      | (with_reducible refine LeO.bind ?_ (fun _ => ?_))
      | exact impl_allWithin.mono _ _ _ _
      | exact LeO.none _
      | refine LeO.ite ?_ ?_
      | refine LeO.bind ?_ (fun _ => ?_)
set_option maxHeartbeats 8000000 in
set_option maxRecDepth 100000 in
theorem impl_DivisorOk.calls (k : Nat) (a0_0 : Int) (A0_1 : Option Addr) (c0_1 : Nat) (l0_1 : List (S70)) (A1 : Option Addr) (c1 : Nat) (l1 : List Int) (r : Bool) (w : World) (hr0_1 : Kd.C k70 w A0_1 l0_1.length l0_1) (hc0_1 : l0_1.length ≤ c0_1) (hr1 : Kd.C (Kd.int .i64) w A1 l1.length l1) (hc1 : l1.length ≤ c1) (h : impl_DivisorOk.f k a0_0 l0_1 l1 = some r) :
    Calls Try.prog 183 #[.agg #[.int .i64 a0_0, .slice A0_1 l0_1.length c0_1], .slice A1 l1.length c1] w fun e w' => e = .returned (.bool r) ∧ Below w.heap.size w w' := by
  have hu38 := Try.underlying38; have HR0_1 := Aside0.mk hr0_1; have HC0_1 := Aside0.mk hc0_1; clear hr0_1 hc0_1; have HR1 := Aside0.mk hr1; have HC1 := Aside0.mk hc1; clear hr1 hc1; have HB := Aside0.mk (Below.refl w.heap.size w); have H : ((impl_GraphOk.f a0_0 l0_1).bind fun t102 => (if t102 = true then (if (l1.length : Int) = a0_0 then ((impl_allWithin.f k l1 (-60) 60).bind fun t103 => (some t103)) else (some false)) else (some false))) = some r := h; clear h; replace H := Option.bind_eq_some_iff.mp H; obtain ⟨t102, A30, H⟩ := H; replace H : (if t102 = true then (if (l1.length : Int) = a0_0 then ((impl_allWithin.f k l1 (-60) 60).bind fun t103 => (some t103)) else (some false)) else (some false)) = some r := H; have A3 := Aside0.mk A30; clear A30; by_cases c4 : t102 = true; rotate_left
  · replace c4 := Bool.eq_false_iff.mpr c4; subst c4; (have H1 : (some false) = some r := by rw [if_neg (show ¬ (false = true) by decide)] at H; exact H); clear H; have H := H1; clear H1; obtain rfl := Option.some.inj H; go_enter Try.func183, Try.ntmps183; (go_wp2_with (first | ((with_reducible refine gate_dst (N := 2) rfl ?_); (try (refine gate_guard (by rfl) ?_; dsimp only)); refine box_event ?hg (N := 2) ?hd (cs := #[.int .i64 a0_0, .slice A0_1 l0_1.length c0_1]) (t := 38) ?hr ?_; (case hd => rfl); (case hg => rfl); (case hr => first | (go_simp; done) | (go_simp; rfl)); intro gb101 hg w15 hbox hb; have n0_ := Aside0.mk (below_step zz1 hb); have n1_ := Aside0.mk (hbox); have n2_ := Aside0.mk ((zz7 : w.heap.size ≤ gb101)); have n3_ := Aside0.mk ((zz7 : w.heap.size ≤ gb101)); clear HB; have HB := n0_; have BK101 := n1_; have GW101 := n2_; have GE101 := n3_; clear n0_ n1_ n2_ n3_; clear hb hbox hg; have hcz16_0 : w15.cell? ⟨gb101, 0, none⟩ = some (.int .i64 a0_0) := (blk_cell BK101.out 0).trans rfl; have hcz16_1 : w15.cell? ⟨gb101, 1, none⟩ = some (.slice A0_1 l0_1.length c0_1) := (blk_cell BK101.out 1).trans rfl; have hfz16_0 := blk_frozen BK101.out 0; have hfz16_1 := blk_frozen BK101.out 1) | ((with_reducible refine gate_callee (f := 173) rfl ?_); refine goesL_ (some 6) rfl rfl Try.func173 (by kernel_rfl) rfl #[.agg #[.int .i64 a0_0, .slice A0_1 l0_1.length c0_1]] rfl zz4 ?_; (with_reducible refine (impl_GraphOk.calls a0_0 _ _ l0_1 false _ ?side1 ?side2 A3.out).mono ?_); (case side1 => repeat (first | exact (Kd.C_below HR0_1.out HB.out) | (with_reducible refine Kd.C_alloc ?_ _) | (with_reducible refine Kd.C_drewN ?_ _) | (with_reducible refine Kd.C_drew ?_))); (case side2 => exact HC0_1.out); rintro e w17 ⟨rfl, hb⟩; refine ⟨_, rfl, ?_⟩; have n0_ := Aside0.mk (blk_below (g := gb101) (o := .cells #[.int .i64 a0_0, .slice A0_1 l0_1.length c0_1] 38 (0, 0)) zz2 hb); have n1_ := Aside0.mk (below_step zz0 hb); clear BK101; clear HB; have BK101 := n0_; have HB := n1_; clear n0_ n1_; (try clear hb); (try clear hb2); (try clear hk); (try clear hi)))); go_ret; exact ⟨by first | rfl | (simp [errW_none, errW_some] <;> rfl) | (simp [*, errW_none, errW_some] <;> rfl), by repeat (first | (with_reducible first | exact HB.out | apply below_alloc | apply pw_below_drewN | apply below_drew1 | refine below_set ?_ GE101.out) | exact HB.out)⟩
  subst c4; (have H1 : (if (l1.length : Int) = a0_0 then ((impl_allWithin.f k l1 (-60) 60).bind fun t103 => (some t103)) else (some false)) = some r := by rw [if_pos rfl] at H; exact H); clear H; have H := H1; clear H1; by_cases c5 : (l1.length : Int) = a0_0; rotate_left
  · rw [if_neg c5] at H; have c5b0 : ((l1.length : Int) == a0_0) = false := beq_eq_false_iff_ne.mpr c5; have c5b1 : ((l1.length : Int) != a0_0) = true := bne_iff_ne.mpr c5; obtain rfl := Option.some.inj H; go_enter Try.func183, Try.ntmps183; (go_wp2_with (first | ((with_reducible refine gate_dst (N := 2) rfl ?_); (try (refine gate_guard (by rfl) ?_; dsimp only)); refine box_event ?hg (N := 2) ?hd (cs := #[.int .i64 a0_0, .slice A0_1 l0_1.length c0_1]) (t := 38) ?hr ?_; (case hd => rfl); (case hg => rfl); (case hr => first | (go_simp; done) | (go_simp; rfl)); intro gb101 hg w11 hbox hb; have n0_ := Aside0.mk (below_step zz1 hb); have n1_ := Aside0.mk (hbox); have n2_ := Aside0.mk ((zz7 : w.heap.size ≤ gb101)); have n3_ := Aside0.mk ((zz7 : w.heap.size ≤ gb101)); clear HB; have HB := n0_; have BK101 := n1_; have GW101 := n2_; have GE101 := n3_; clear n0_ n1_ n2_ n3_; clear hb hbox hg; have hcz12_0 : w11.cell? ⟨gb101, 0, none⟩ = some (.int .i64 a0_0) := (blk_cell BK101.out 0).trans rfl; have hcz12_1 : w11.cell? ⟨gb101, 1, none⟩ = some (.slice A0_1 l0_1.length c0_1) := (blk_cell BK101.out 1).trans rfl; have hfz12_0 := blk_frozen BK101.out 0; have hfz12_1 := blk_frozen BK101.out 1) | ((with_reducible refine gate_callee (f := 173) rfl ?_); refine goesL_ (some 6) rfl rfl Try.func173 (by kernel_rfl) rfl #[.agg #[.int .i64 a0_0, .slice A0_1 l0_1.length c0_1]] rfl zz4 ?_; (with_reducible refine (impl_GraphOk.calls a0_0 _ _ l0_1 true _ ?side1 ?side2 A3.out).mono ?_); (case side1 => repeat (first | exact (Kd.C_below HR0_1.out HB.out) | (with_reducible refine Kd.C_alloc ?_ _) | (with_reducible refine Kd.C_drewN ?_ _) | (with_reducible refine Kd.C_drew ?_))); (case side2 => exact HC0_1.out); rintro e w13 ⟨rfl, hb⟩; refine ⟨_, rfl, ?_⟩; have n0_ := Aside0.mk (blk_below (g := gb101) (o := .cells #[.int .i64 a0_0, .slice A0_1 l0_1.length c0_1] 38 (0, 0)) zz2 hb); have n1_ := Aside0.mk (below_step zz0 hb); clear BK101; clear HB; have BK101 := n0_; have HB := n1_; clear n0_ n1_; (try clear hb); (try clear hb2); (try clear hk); (try clear hi); have hcz14_0 : w13.cell? ⟨gb101, 0, none⟩ = some (.int .i64 a0_0) := (blk_cell BK101.out 0).trans rfl; have hcz14_1 : w13.cell? ⟨gb101, 1, none⟩ = some (.slice A0_1 l0_1.length c0_1) := (blk_cell BK101.out 1).trans rfl; have hfz14_0 := blk_frozen BK101.out 0; have hfz14_1 := blk_frozen BK101.out 1))); go_ret; exact ⟨by first | rfl | (simp [errW_none, errW_some] <;> rfl) | (simp [*, errW_none, errW_some] <;> rfl), by repeat (first | (with_reducible first | exact HB.out | apply below_alloc | apply pw_below_drewN | apply below_drew1 | refine below_set ?_ GE101.out) | exact HB.out)⟩
  rw [if_pos c5] at H; have c5b0 : ((l1.length : Int) == a0_0) = true := beq_iff_eq.mpr c5; have c5b1 : ((l1.length : Int) != a0_0) = false := bne_eq_false_iff_eq.mpr c5; clear c5; replace H := Option.bind_eq_some_iff.mp H; obtain ⟨t103, A60, H⟩ := H; replace H : (some t103) = some r := H; have A6 := Aside0.mk A60; clear A60; obtain rfl := Option.some.inj H; go_enter Try.func183, Try.ntmps183; (go_wp2_with (first | ((with_reducible refine gate_dst (N := 2) rfl ?_); (try (refine gate_guard (by rfl) ?_; dsimp only)); refine box_event ?hg (N := 2) ?hd (cs := #[.int .i64 a0_0, .slice A0_1 l0_1.length c0_1]) (t := 38) ?hr ?_; (case hd => rfl); (case hg => rfl); (case hr => first | (go_simp; done) | (go_simp; rfl)); intro gb101 hg w7 hbox hb; have n0_ := Aside0.mk (below_step zz1 hb); have n1_ := Aside0.mk (hbox); have n2_ := Aside0.mk ((zz7 : w.heap.size ≤ gb101)); have n3_ := Aside0.mk ((zz7 : w.heap.size ≤ gb101)); clear HB; have HB := n0_; have BK101 := n1_; have GW101 := n2_; have GE101 := n3_; clear n0_ n1_ n2_ n3_; clear hb hbox hg; have hcz8_0 : w7.cell? ⟨gb101, 0, none⟩ = some (.int .i64 a0_0) := (blk_cell BK101.out 0).trans rfl; have hcz8_1 : w7.cell? ⟨gb101, 1, none⟩ = some (.slice A0_1 l0_1.length c0_1) := (blk_cell BK101.out 1).trans rfl; have hfz8_0 := blk_frozen BK101.out 0; have hfz8_1 := blk_frozen BK101.out 1) | ((with_reducible refine gate_callee (f := 173) rfl ?_); refine goesL_ (some 6) rfl rfl Try.func173 (by kernel_rfl) rfl #[.agg #[.int .i64 a0_0, .slice A0_1 l0_1.length c0_1]] rfl zz4 ?_; (with_reducible refine (impl_GraphOk.calls a0_0 _ _ l0_1 true _ ?side1 ?side2 A3.out).mono ?_); (case side1 => repeat (first | exact (Kd.C_below HR0_1.out HB.out) | (with_reducible refine Kd.C_alloc ?_ _) | (with_reducible refine Kd.C_drewN ?_ _) | (with_reducible refine Kd.C_drew ?_))); (case side2 => exact HC0_1.out); rintro e w9 ⟨rfl, hb⟩; refine ⟨_, rfl, ?_⟩; have n0_ := Aside0.mk (blk_below (g := gb101) (o := .cells #[.int .i64 a0_0, .slice A0_1 l0_1.length c0_1] 38 (0, 0)) zz2 hb); have n1_ := Aside0.mk (below_step zz0 hb); clear BK101; clear HB; have BK101 := n0_; have HB := n1_; clear n0_ n1_; (try clear hb); (try clear hb2); (try clear hk); (try clear hi); have hcz10_0 : w9.cell? ⟨gb101, 0, none⟩ = some (.int .i64 a0_0) := (blk_cell BK101.out 0).trans rfl; have hcz10_1 : w9.cell? ⟨gb101, 1, none⟩ = some (.slice A0_1 l0_1.length c0_1) := (blk_cell BK101.out 1).trans rfl; have hfz10_0 := blk_frozen BK101.out 0; have hfz10_1 := blk_frozen BK101.out 1) | (go_at_call 162; (with_reducible refine (impl_allWithin.calls k _ _ l1 (-60) 60 t103 _ ?side1 ?side2 A6.out).mono ?_); (case side1 => repeat (first | exact (Kd.C_below HR1.out HB.out) | (with_reducible refine Kd.C_alloc ?_ _) | (with_reducible refine Kd.C_drewN ?_ _) | (with_reducible refine Kd.C_drew ?_))); (case side2 => exact HC1.out); rintro e w' ⟨rfl, ⟨nd, rfl⟩⟩))); go_ret; exact ⟨by first | rfl | (simp [errW_none, errW_some] <;> rfl) | (simp [*, errW_none, errW_some] <;> rfl), by repeat (first | (with_reducible first | exact HB.out | apply below_alloc | apply pw_below_drewN | apply below_drew1 | refine below_set ?_ GE101.out) | exact HB.out)⟩
end Go.Proofs.Ytjecgolakaiddaa.P
end

section
namespace Go.Proofs.Ytjecgolakaiddaa.P
open Go.RowKit Go.Proofs.YtjecgolakaiddaaW.PrintWords Go.Proofs.YtjecgolakaiddaaW.PrintLast Go.Proofs.YtjecgolakaiddaaW.PrintMore
attribute [local go_sem] max2_int min2_int max_two min_two max_three min_three max_four min_four
set_option linter.unusedVariables false
set_option linter.unusedSimpArgs false
def impl_IsEffective.l0 : Nat → List Int → Int → Int → Option (Bool)
  | 0, _, _, _ => none
  | k + 1, x5, x6, x7 => if x7 < x6 then (if 0 ≤ x7 then (if x7 < (x5.length : Int) then (if (rd x5 x7) < 0 then (some false) else (impl_IsEffective.l0 k x5 x6 (wrap64 (x7 + 1)))) else (none)) else (none)) else (some true)
def impl_IsEffective.f (k : Nat) (l0 : List Int) : Option (Bool) := impl_IsEffective.l0 k l0 (l0.length : Int) 0
theorem impl_IsEffective.mono_l : ∀ k, (∀ y0 y1 y2, LeO (impl_IsEffective.l0 k y0 y1 y2) (impl_IsEffective.l0 (k + 1) y0 y1 y2))
  | 0 => fun _ _ _ r h => by simp [impl_IsEffective.l0] at h
  | k + 1 => by
    have ih0 := impl_IsEffective.mono_l k
    · intro y0 y1 y2
      unfold impl_IsEffective.l0
      repeat' first
      | (with_reducible exact ih0 _ _ _)
      | (with_reducible exact LeO.refl _)
      | (with_reducible exact LeO.none _)
      | (with_reducible refine LeO.ite ?_ ?_)
      | (with_reducible refine LeO.bind ?_ (fun _ => ?_))
      | exact ih0 _ _ _
      | exact LeO.none _
      | refine LeO.ite ?_ ?_
      | refine LeO.bind ?_ (fun _ => ?_)
theorem impl_IsEffective.mono : ∀ a0 k, LeO (impl_IsEffective.f k a0) (impl_IsEffective.f (k + 1) a0) := by
  intro a0 k; have ih0 := impl_IsEffective.mono_l k; unfold impl_IsEffective.f
  repeat' first
      | (with_reducible exact ih0 _ _ _)
      | (with_reducible exact LeO.refl _)
      | (with_reducible exact LeO.none _)
      | (with_reducible refine LeO.ite ?_ ?_)
      | (with_reducible refine LeO.bind ?_ (fun _ => ?_))
      | exact ih0 _ _ _
      | exact LeO.none _
      | refine LeO.ite ?_ ?_
      | refine LeO.bind ?_ (fun _ => ?_)
set_option maxHeartbeats 8000000 in
set_option maxRecDepth 100000 in
theorem impl_IsEffective.calls (k : Nat) (A0 : Option Addr) (c0 : Nat) (l0 : List Int) (r : Bool) (w : World) (hr0 : Kd.C (Kd.int .i64) w A0 l0.length l0) (hc0 : l0.length ≤ c0) (h : impl_IsEffective.f k l0 = some r) :
    Calls Try.prog 184 #[.slice A0 l0.length c0] w fun e w' => e = .returned (.bool r) ∧ Drawn0 w w' := by
  have HR0 := Aside0.mk hr0; have HC0 := Aside0.mk hc0; clear hr0 hc0; have H : (impl_IsEffective.l0 k l0 (l0.length : Int) 0) = some r := h; clear h; have H' := Aside0.mk H; clear H; go_enter Try.func184, Try.ntmps184; go_wp2; (go_loopg [7] k (fun kq v7 w' => ∃ (x7_1 : Int), v7 = .int .i64 x7_1 ∧ Aside0 (impl_IsEffective.l0 kq l0 (l0.length : Int) x7_1 = some r) ∧ Aside0 (kq ≤ k) ∧ Drawn0 w w')); case atStart => exact ⟨(0), zz6, H', ⟨Nat.le_refl _⟩, by repeat (first | exact Drawn0.refl _ | apply Drawn0.step)⟩
  case round =>
    clear H'; (try clear c1); obtain ⟨x7_1, rfl, HA, HK1, ⟨m1, rfl⟩⟩ := hrel
    cases gk with
    | zero => exact absurd HA.out (by simp [impl_IsEffective.l0])
    | succ k1 =>
      have H := HA.out; clear HA; simp only [impl_IsEffective.l0] at H; by_cases c2 : x7_1 < (l0.length : Int); rotate_left
      · rw [if_neg c2] at H; have c2b0 : decide (x7_1 < (l0.length : Int)) = false := decide_eq_false c2; clear c2; obtain rfl := Option.some.inj H; go_wp2; go_ret; exact ⟨by first | rfl | (simp; done) | (simp [*]; done), by repeat (first | exact Drawn0.refl _ | apply Drawn0.step)⟩
      rw [if_pos c2] at H; have c2b0 : decide (x7_1 < (l0.length : Int)) = true := decide_eq_true c2; clear c2; by_cases c3 : 0 ≤ x7_1; rotate_left
      · rw [if_neg c3] at H; exact absurd H (by simp)
      rw [if_pos c3] at H; have c3b0 : decide (0 ≤ x7_1) = true := decide_eq_true c3; clear c3; by_cases c4 : x7_1 < (l0.length : Int); rotate_left
      · rw [if_neg c4] at H; exact absurd H (by simp)
      rw [if_pos c4] at H; have c4b0 : decide (x7_1 < (l0.length : Int)) = true := decide_eq_true c4; clear c4; by_cases c5 : (rd l0 x7_1) < 0
      · rw [if_pos c5] at H; have c5b0 : decide ((rd l0 x7_1) < 0) = true := decide_eq_true c5; clear c5; obtain rfl := Option.some.inj H; have p101 : 0 ≤ (x7_1 : Int) := of_decide_eq_true zz3; have q101 : x7_1 < (l0.length : Int) := of_decide_eq_true zz3; obtain ⟨ad101, e101, hx101_0⟩ := Kd.at_int HR0.out x7_1 p101 q101; cases e101; replace p101 := eq_true p101; replace q101 := eq_true q101; go_wp2; go_ret; exact ⟨by first | rfl | (simp; done) | (simp [*]; done), by repeat (first | exact Drawn0.refl _ | apply Drawn0.step)⟩
      rw [if_neg c5] at H; have c5b0 : decide ((rd l0 x7_1) < 0) = false := decide_eq_false c5; clear c5; have H' := Aside0.mk H; clear H; have p101 : 0 ≤ (x7_1 : Int) := of_decide_eq_true zz3; have q101 : x7_1 < (l0.length : Int) := of_decide_eq_true zz3; obtain ⟨ad101, e101, hx101_0⟩ := Kd.at_int HR0.out x7_1 p101 q101; cases e101; replace p101 := eq_true p101; replace q101 := eq_true q101; go_wp2; go_roundg k1; (case measure => have := HK1.out; omega); case rel => exact ⟨(wrap64 (x7_1 + 1)), zz6, H', ⟨by have := HK1.out; omega⟩, by repeat (first | exact Drawn0.refl _ | apply Drawn0.step)⟩
end Go.Proofs.Ytjecgolakaiddaa.P
end

section
namespace Go.Proofs.Ytjecgolakaiddaa.P
open Go.RowKit Go.Proofs.YtjecgolakaiddaaW.PrintWords Go.Proofs.YtjecgolakaiddaaW.PrintLast Go.Proofs.YtjecgolakaiddaaW.PrintMore
attribute [local go_sem] max2_int min2_int max_two min_two max_three min_three max_four min_four
set_option linter.unusedVariables false
set_option linter.unusedSimpArgs false
def impl_PileOk.f (k : Nat) (a0_0 : Int) (l0_1 : List (S70)) (l1 : List Int) (a2 : Int) : Option (Bool) := (impl_DivisorOk.f k a0_0 l0_1 l1).bind fun t102 => (if t102 = true then ((impl_within.f a2 0 (wrap64 (a0_0 - 1))).bind fun t103 => (if t103 = true then ((impl_IsEffective.f k l1).bind fun t104 => (if t104 = true then (if 0 ≤ a2 then (if a2 < (l1.length : Int) then (some ((rd l1 a2) == 0)) else (none)) else (none)) else (some false))) else (some false))) else (some false))
theorem impl_PileOk.mono : ∀ a0 a1 a2 a3 k, LeO (impl_PileOk.f k a0 a1 a2 a3) (impl_PileOk.f (k + 1) a0 a1 a2 a3) := by
  intro a0 a1 a2 a3 k; unfold impl_PileOk.f
  repeat' first
      | (with_reducible exact impl_DivisorOk.mono _ _ _ _)
      | (with_reducible exact impl_IsEffective.mono _ _)
      | (with_reducible exact LeO.refl _)
      | (with_reducible exact LeO.none _)
      | (with_reducible refine LeO.ite ?_ ?_)
      | (with_reducible refine LeO.bind ?_ (fun _ => ?_))
      | exact impl_DivisorOk.mono _ _ _ _
      | exact impl_IsEffective.mono _ _
      | exact LeO.none _
      | refine LeO.ite ?_ ?_
      | refine LeO.bind ?_ (fun _ => ?_)
set_option maxHeartbeats 8000000 in
set_option maxRecDepth 100000 in
theorem impl_PileOk.calls (k : Nat) (a0_0 : Int) (A0_1 : Option Addr) (c0_1 : Nat) (l0_1 : List (S70)) (A1 : Option Addr) (c1 : Nat) (l1 : List Int) (a2 : Int) (r : Bool) (w : World) (hr0_1 : Kd.C k70 w A0_1 l0_1.length l0_1) (hc0_1 : l0_1.length ≤ c0_1) (hr1 : Kd.C (Kd.int .i64) w A1 l1.length l1) (hc1 : l1.length ≤ c1) (h : impl_PileOk.f k a0_0 l0_1 l1 a2 = some r) :
    Calls Try.prog 136 #[.agg #[.int .i64 a0_0, .slice A0_1 l0_1.length c0_1], .slice A1 l1.length c1, .int .i64 a2] w fun e w' => e = .returned (.bool r) ∧ Below w.heap.size w w' := by
  have hu38 := Try.underlying38; have HR0_1 := Aside0.mk hr0_1; have HC0_1 := Aside0.mk hc0_1; clear hr0_1 hc0_1; have HR1 := Aside0.mk hr1; have HC1 := Aside0.mk hc1; clear hr1 hc1; have HB := Aside0.mk (Below.refl w.heap.size w); have H : ((impl_DivisorOk.f k a0_0 l0_1 l1).bind fun t102 => (if t102 = true then ((impl_within.f a2 0 (wrap64 (a0_0 - 1))).bind fun t103 => (if t103 = true then ((impl_IsEffective.f k l1).bind fun t104 => (if t104 = true then (if 0 ≤ a2 then (if a2 < (l1.length : Int) then (some ((rd l1 a2) == 0)) else (none)) else (none)) else (some false))) else (some false))) else (some false))) = some r := h; clear h; replace H := Option.bind_eq_some_iff.mp H; obtain ⟨t102, A40, H⟩ := H; replace H : (if t102 = true then ((impl_within.f a2 0 (wrap64 (a0_0 - 1))).bind fun t103 => (if t103 = true then ((impl_IsEffective.f k l1).bind fun t104 => (if t104 = true then (if 0 ≤ a2 then (if a2 < (l1.length : Int) then (some ((rd l1 a2) == 0)) else (none)) else (none)) else (some false))) else (some false))) else (some false)) = some r := H; have A4 := Aside0.mk A40; clear A40; by_cases c5 : t102 = true; rotate_left
  · replace c5 := Bool.eq_false_iff.mpr c5; subst c5; (have H1 : (some false) = some r := by rw [if_neg (show ¬ (false = true) by decide)] at H; exact H); clear H; have H := H1; clear H1; obtain rfl := Option.some.inj H; go_enter Try.func136, Try.ntmps136; (go_wp2_with (first | ((with_reducible refine gate_dst (N := 3) rfl ?_); refine box_event ?hg (N := 3) ?hd (cs := #[.int .i64 a0_0, .slice A0_1 l0_1.length c0_1]) (t := 38) ?hr ?_; (case hd => rfl); (case hg => rfl); (case hr => first | (go_simp; done) | (go_simp; rfl)); intro gb101 hg w24 hbox hb; have n0_ := Aside0.mk (below_step zz1 hb); have n1_ := Aside0.mk (hbox); have n2_ := Aside0.mk ((zz7 : w.heap.size ≤ gb101)); have n3_ := Aside0.mk ((zz7 : w.heap.size ≤ gb101)); clear HB; have HB := n0_; have BK101 := n1_; have GW101 := n2_; have GE101 := n3_; clear n0_ n1_ n2_ n3_; clear hb hbox hg; have hcz25_0 : w24.cell? ⟨gb101, 0, none⟩ = some (.int .i64 a0_0) := (blk_cell BK101.out 0).trans rfl; have hcz25_1 : w24.cell? ⟨gb101, 1, none⟩ = some (.slice A0_1 l0_1.length c0_1) := (blk_cell BK101.out 1).trans rfl; have hfz25_0 := blk_frozen BK101.out 0; have hfz25_1 := blk_frozen BK101.out 1) | ((with_reducible refine gate_callee (f := 183) rfl ?_); refine goesL_ (some 9) rfl rfl Try.func183 (by kernel_rfl) rfl #[.agg #[.int .i64 a0_0, .slice A0_1 l0_1.length c0_1], .slice A1 l1.length c1] rfl zz4 ?_; (with_reducible refine (impl_DivisorOk.calls k a0_0 _ _ l0_1 _ _ l1 false _ ?side1 ?side2 ?side3 ?side4 A4.out).mono ?_); (case side1 => repeat (first | exact (Kd.C_below HR0_1.out HB.out) | (with_reducible refine Kd.C_alloc ?_ _) | (with_reducible refine Kd.C_drewN ?_ _) | (with_reducible refine Kd.C_drew ?_))); (case side2 => exact HC0_1.out); (case side3 => repeat (first | exact (Kd.C_below HR1.out HB.out) | (with_reducible refine Kd.C_alloc ?_ _) | (with_reducible refine Kd.C_drewN ?_ _) | (with_reducible refine Kd.C_drew ?_))); (case side4 => exact HC1.out); rintro e w26 ⟨rfl, hb⟩; refine ⟨_, rfl, ?_⟩; have n0_ := Aside0.mk (blk_below (g := gb101) (o := .cells #[.int .i64 a0_0, .slice A0_1 l0_1.length c0_1] 38 (0, 0)) zz2 hb); have n1_ := Aside0.mk (below_step zz0 hb); clear BK101; clear HB; have BK101 := n0_; have HB := n1_; clear n0_ n1_; (try clear hb); (try clear hb2); (try clear hk); (try clear hi)))); go_ret; exact ⟨by first | rfl | (simp [errW_none, errW_some] <;> rfl) | (simp [*, errW_none, errW_some] <;> rfl), by repeat (first | (with_reducible first | exact HB.out | apply below_alloc | apply pw_below_drewN | apply below_drew1 | refine below_set ?_ GE101.out) | exact HB.out)⟩
  subst c5; (have H1 : ((impl_within.f a2 0 (wrap64 (a0_0 - 1))).bind fun t103 => (if t103 = true then ((impl_IsEffective.f k l1).bind fun t104 => (if t104 = true then (if 0 ≤ a2 then (if a2 < (l1.length : Int) then (some ((rd l1 a2) == 0)) else (none)) else (none)) else (some false))) else (some false))) = some r := by rw [if_pos rfl] at H; exact H); clear H; have H := H1; clear H1; replace H := Option.bind_eq_some_iff.mp H; obtain ⟨t103, A60, H⟩ := H; replace H : (if t103 = true then ((impl_IsEffective.f k l1).bind fun t104 => (if t104 = true then (if 0 ≤ a2 then (if a2 < (l1.length : Int) then (some ((rd l1 a2) == 0)) else (none)) else (none)) else (some false))) else (some false)) = some r := H; have A6 := Aside0.mk A60; clear A60; by_cases c7 : t103 = true; rotate_left
  · replace c7 := Bool.eq_false_iff.mpr c7; subst c7; (have H1 : (some false) = some r := by rw [if_neg (show ¬ (false = true) by decide)] at H; exact H); clear H; have H := H1; clear H1; obtain rfl := Option.some.inj H; go_enter Try.func136, Try.ntmps136; (go_wp2_with (first | ((with_reducible refine gate_dst (N := 3) rfl ?_); refine box_event ?hg (N := 3) ?hd (cs := #[.int .i64 a0_0, .slice A0_1 l0_1.length c0_1]) (t := 38) ?hr ?_; (case hd => rfl); (case hg => rfl); (case hr => first | (go_simp; done) | (go_simp; rfl)); intro gb101 hg w20 hbox hb; have n0_ := Aside0.mk (below_step zz1 hb); have n1_ := Aside0.mk (hbox); have n2_ := Aside0.mk ((zz7 : w.heap.size ≤ gb101)); have n3_ := Aside0.mk ((zz7 : w.heap.size ≤ gb101)); clear HB; have HB := n0_; have BK101 := n1_; have GW101 := n2_; have GE101 := n3_; clear n0_ n1_ n2_ n3_; clear hb hbox hg; have hcz21_0 : w20.cell? ⟨gb101, 0, none⟩ = some (.int .i64 a0_0) := (blk_cell BK101.out 0).trans rfl; have hcz21_1 : w20.cell? ⟨gb101, 1, none⟩ = some (.slice A0_1 l0_1.length c0_1) := (blk_cell BK101.out 1).trans rfl; have hfz21_0 := blk_frozen BK101.out 0; have hfz21_1 := blk_frozen BK101.out 1) | ((with_reducible refine gate_callee (f := 183) rfl ?_); refine goesL_ (some 9) rfl rfl Try.func183 (by kernel_rfl) rfl #[.agg #[.int .i64 a0_0, .slice A0_1 l0_1.length c0_1], .slice A1 l1.length c1] rfl zz4 ?_; (with_reducible refine (impl_DivisorOk.calls k a0_0 _ _ l0_1 _ _ l1 true _ ?side1 ?side2 ?side3 ?side4 A4.out).mono ?_); (case side1 => repeat (first | exact (Kd.C_below HR0_1.out HB.out) | (with_reducible refine Kd.C_alloc ?_ _) | (with_reducible refine Kd.C_drewN ?_ _) | (with_reducible refine Kd.C_drew ?_))); (case side2 => exact HC0_1.out); (case side3 => repeat (first | exact (Kd.C_below HR1.out HB.out) | (with_reducible refine Kd.C_alloc ?_ _) | (with_reducible refine Kd.C_drewN ?_ _) | (with_reducible refine Kd.C_drew ?_))); (case side4 => exact HC1.out); rintro e w22 ⟨rfl, hb⟩; refine ⟨_, rfl, ?_⟩; have n0_ := Aside0.mk (blk_below (g := gb101) (o := .cells #[.int .i64 a0_0, .slice A0_1 l0_1.length c0_1] 38 (0, 0)) zz2 hb); have n1_ := Aside0.mk (below_step zz0 hb); clear BK101; clear HB; have BK101 := n0_; have HB := n1_; clear n0_ n1_; (try clear hb); (try clear hb2); (try clear hk); (try clear hi); have hcz23_0 : w22.cell? ⟨gb101, 0, none⟩ = some (.int .i64 a0_0) := (blk_cell BK101.out 0).trans rfl; have hcz23_1 : w22.cell? ⟨gb101, 1, none⟩ = some (.slice A0_1 l0_1.length c0_1) := (blk_cell BK101.out 1).trans rfl; have hfz23_0 := blk_frozen BK101.out 0; have hfz23_1 := blk_frozen BK101.out 1) | (go_at_call 123; (with_reducible refine (impl_within.calls a2 0 (wrap64 (a0_0 - 1)) false _ A6.out).mono ?_); rintro e w' ⟨rfl, ⟨nd, rfl⟩⟩))); go_ret; exact ⟨by first | rfl | (simp [errW_none, errW_some] <;> rfl) | (simp [*, errW_none, errW_some] <;> rfl), by repeat (first | (with_reducible first | exact HB.out | apply below_alloc | apply pw_below_drewN | apply below_drew1 | refine below_set ?_ GE101.out) | exact HB.out)⟩
  subst c7; (have H1 : ((impl_IsEffective.f k l1).bind fun t104 => (if t104 = true then (if 0 ≤ a2 then (if a2 < (l1.length : Int) then (some ((rd l1 a2) == 0)) else (none)) else (none)) else (some false))) = some r := by rw [if_pos rfl] at H; exact H); clear H; have H := H1; clear H1; replace H := Option.bind_eq_some_iff.mp H; obtain ⟨t104, A80, H⟩ := H; replace H : (if t104 = true then (if 0 ≤ a2 then (if a2 < (l1.length : Int) then (some ((rd l1 a2) == 0)) else (none)) else (none)) else (some false)) = some r := H; have A8 := Aside0.mk A80; clear A80; by_cases c9 : t104 = true; rotate_left
  · replace c9 := Bool.eq_false_iff.mpr c9; subst c9; (have H1 : (some false) = some r := by rw [if_neg (show ¬ (false = true) by decide)] at H; exact H); clear H; have H := H1; clear H1; obtain rfl := Option.some.inj H; go_enter Try.func136, Try.ntmps136; (go_wp2_with (first | ((with_reducible refine gate_dst (N := 3) rfl ?_); refine box_event ?hg (N := 3) ?hd (cs := #[.int .i64 a0_0, .slice A0_1 l0_1.length c0_1]) (t := 38) ?hr ?_; (case hd => rfl); (case hg => rfl); (case hr => first | (go_simp; done) | (go_simp; rfl)); intro gb101 hg w16 hbox hb; have n0_ := Aside0.mk (below_step zz1 hb); have n1_ := Aside0.mk (hbox); have n2_ := Aside0.mk ((zz7 : w.heap.size ≤ gb101)); have n3_ := Aside0.mk ((zz7 : w.heap.size ≤ gb101)); clear HB; have HB := n0_; have BK101 := n1_; have GW101 := n2_; have GE101 := n3_; clear n0_ n1_ n2_ n3_; clear hb hbox hg; have hcz17_0 : w16.cell? ⟨gb101, 0, none⟩ = some (.int .i64 a0_0) := (blk_cell BK101.out 0).trans rfl; have hcz17_1 : w16.cell? ⟨gb101, 1, none⟩ = some (.slice A0_1 l0_1.length c0_1) := (blk_cell BK101.out 1).trans rfl; have hfz17_0 := blk_frozen BK101.out 0; have hfz17_1 := blk_frozen BK101.out 1) | ((with_reducible refine gate_callee (f := 183) rfl ?_); refine goesL_ (some 9) rfl rfl Try.func183 (by kernel_rfl) rfl #[.agg #[.int .i64 a0_0, .slice A0_1 l0_1.length c0_1], .slice A1 l1.length c1] rfl zz4 ?_; (with_reducible refine (impl_DivisorOk.calls k a0_0 _ _ l0_1 _ _ l1 true _ ?side1 ?side2 ?side3 ?side4 A4.out).mono ?_); (case side1 => repeat (first | exact (Kd.C_below HR0_1.out HB.out) | (with_reducible refine Kd.C_alloc ?_ _) | (with_reducible refine Kd.C_drewN ?_ _) | (with_reducible refine Kd.C_drew ?_))); (case side2 => exact HC0_1.out); (case side3 => repeat (first | exact (Kd.C_below HR1.out HB.out) | (with_reducible refine Kd.C_alloc ?_ _) | (with_reducible refine Kd.C_drewN ?_ _) | (with_reducible refine Kd.C_drew ?_))); (case side4 => exact HC1.out); rintro e w18 ⟨rfl, hb⟩; refine ⟨_, rfl, ?_⟩; have n0_ := Aside0.mk (blk_below (g := gb101) (o := .cells #[.int .i64 a0_0, .slice A0_1 l0_1.length c0_1] 38 (0, 0)) zz2 hb); have n1_ := Aside0.mk (below_step zz0 hb); clear BK101; clear HB; have BK101 := n0_; have HB := n1_; clear n0_ n1_; (try clear hb); (try clear hb2); (try clear hk); (try clear hi); have hcz19_0 : w18.cell? ⟨gb101, 0, none⟩ = some (.int .i64 a0_0) := (blk_cell BK101.out 0).trans rfl; have hcz19_1 : w18.cell? ⟨gb101, 1, none⟩ = some (.slice A0_1 l0_1.length c0_1) := (blk_cell BK101.out 1).trans rfl; have hfz19_0 := blk_frozen BK101.out 0; have hfz19_1 := blk_frozen BK101.out 1) | (go_at_call 123; (with_reducible refine (impl_within.calls a2 0 (wrap64 (a0_0 - 1)) true _ A6.out).mono ?_); rintro e w' ⟨rfl, ⟨nd, rfl⟩⟩) | (go_at_call 184; (with_reducible refine (impl_IsEffective.calls k _ _ l1 false _ ?side1 ?side2 A8.out).mono ?_); (case side1 => repeat (first | exact (Kd.C_below HR1.out zz0) | (with_reducible refine Kd.C_alloc ?_ _) | (with_reducible refine Kd.C_drewN ?_ _) | (with_reducible refine Kd.C_drew ?_))); (case side2 => exact HC1.out); rintro e w' ⟨rfl, ⟨nd, rfl⟩⟩))); go_ret; exact ⟨by first | rfl | (simp [errW_none, errW_some] <;> rfl) | (simp [*, errW_none, errW_some] <;> rfl), by repeat (first | (with_reducible first | exact HB.out | apply below_alloc | apply pw_below_drewN | apply below_drew1 | refine below_set ?_ GE101.out) | exact HB.out)⟩
  subst c9; (have H1 : (if 0 ≤ a2 then (if a2 < (l1.length : Int) then (some ((rd l1 a2) == 0)) else (none)) else (none)) = some r := by rw [if_pos rfl] at H; exact H); clear H; have H := H1; clear H1; by_cases c10 : 0 ≤ a2; rotate_left
  · rw [if_neg c10] at H; exact absurd H (by simp)
  rw [if_pos c10] at H; have c10b0 : decide (0 ≤ a2) = true := decide_eq_true c10; clear c10; by_cases c11 : a2 < (l1.length : Int); rotate_left
  · rw [if_neg c11] at H; exact absurd H (by simp)
  rw [if_pos c11] at H; have c11b0 : decide (a2 < (l1.length : Int)) = true := decide_eq_true c11; clear c11; obtain rfl := Option.some.inj H; go_enter Try.func136, Try.ntmps136; (go_wp2_with (first | ((with_reducible refine gate_dst (N := 3) rfl ?_); refine box_event ?hg (N := 3) ?hd (cs := #[.int .i64 a0_0, .slice A0_1 l0_1.length c0_1]) (t := 38) ?hr ?_; (case hd => rfl); (case hg => rfl); (case hr => first | (go_simp; done) | (go_simp; rfl)); intro gb101 hg w12 hbox hb; have n0_ := Aside0.mk (below_step zz1 hb); have n1_ := Aside0.mk (hbox); have n2_ := Aside0.mk ((zz7 : w.heap.size ≤ gb101)); have n3_ := Aside0.mk ((zz7 : w.heap.size ≤ gb101)); clear HB; have HB := n0_; have BK101 := n1_; have GW101 := n2_; have GE101 := n3_; clear n0_ n1_ n2_ n3_; clear hb hbox hg; have hcz13_0 : w12.cell? ⟨gb101, 0, none⟩ = some (.int .i64 a0_0) := (blk_cell BK101.out 0).trans rfl; have hcz13_1 : w12.cell? ⟨gb101, 1, none⟩ = some (.slice A0_1 l0_1.length c0_1) := (blk_cell BK101.out 1).trans rfl; have hfz13_0 := blk_frozen BK101.out 0; have hfz13_1 := blk_frozen BK101.out 1) | ((with_reducible refine gate_callee (f := 183) rfl ?_); refine goesL_ (some 9) rfl rfl Try.func183 (by kernel_rfl) rfl #[.agg #[.int .i64 a0_0, .slice A0_1 l0_1.length c0_1], .slice A1 l1.length c1] rfl zz4 ?_; (with_reducible refine (impl_DivisorOk.calls k a0_0 _ _ l0_1 _ _ l1 true _ ?side1 ?side2 ?side3 ?side4 A4.out).mono ?_); (case side1 => repeat (first | exact (Kd.C_below HR0_1.out HB.out) | (with_reducible refine Kd.C_alloc ?_ _) | (with_reducible refine Kd.C_drewN ?_ _) | (with_reducible refine Kd.C_drew ?_))); (case side2 => exact HC0_1.out); (case side3 => repeat (first | exact (Kd.C_below HR1.out HB.out) | (with_reducible refine Kd.C_alloc ?_ _) | (with_reducible refine Kd.C_drewN ?_ _) | (with_reducible refine Kd.C_drew ?_))); (case side4 => exact HC1.out); rintro e w14 ⟨rfl, hb⟩; refine ⟨_, rfl, ?_⟩; have n0_ := Aside0.mk (blk_below (g := gb101) (o := .cells #[.int .i64 a0_0, .slice A0_1 l0_1.length c0_1] 38 (0, 0)) zz2 hb); have n1_ := Aside0.mk (below_step zz0 hb); clear BK101; clear HB; have BK101 := n0_; have HB := n1_; clear n0_ n1_; (try clear hb); (try clear hb2); (try clear hk); (try clear hi); have hcz15_0 : w14.cell? ⟨gb101, 0, none⟩ = some (.int .i64 a0_0) := (blk_cell BK101.out 0).trans rfl; have hcz15_1 : w14.cell? ⟨gb101, 1, none⟩ = some (.slice A0_1 l0_1.length c0_1) := (blk_cell BK101.out 1).trans rfl; have hfz15_0 := blk_frozen BK101.out 0; have hfz15_1 := blk_frozen BK101.out 1) | (go_at_call 123; (with_reducible refine (impl_within.calls a2 0 (wrap64 (a0_0 - 1)) true _ A6.out).mono ?_); rintro e w' ⟨rfl, ⟨nd, rfl⟩⟩) | (go_at_call 184; (with_reducible refine (impl_IsEffective.calls k _ _ l1 true _ ?side1 ?side2 A8.out).mono ?_); (case side1 => repeat (first | exact (Kd.C_below HR1.out zz0) | (with_reducible refine Kd.C_alloc ?_ _) | (with_reducible refine Kd.C_drewN ?_ _) | (with_reducible refine Kd.C_drew ?_))); (case side2 => exact HC1.out); rintro e w' ⟨rfl, ⟨nd, rfl⟩⟩; have p105 : 0 ≤ (a2 : Int) := of_decide_eq_true zz3; have q105 : a2 < (l1.length : Int) := of_decide_eq_true zz3; obtain ⟨ad105, e105, hx105_0⟩ := Kd.at_int HR1.out a2 p105 q105; cases e105; replace hx105_0 := (HB.out.cell (World.block_lt_of_cell? w _ hx105_0)).trans hx105_0; replace p105 := eq_true p105; replace q105 := eq_true q105))); go_ret; exact ⟨by first | rfl | (simp [errW_none, errW_some] <;> rfl) | (simp [*, errW_none, errW_some] <;> rfl), by repeat (first | (with_reducible first | exact HB.out | apply below_alloc | apply pw_below_drewN | apply below_drew1 | refine below_set ?_ GE101.out) | exact HB.out)⟩
end Go.Proofs.Ytjecgolakaiddaa.P
end

section
namespace Go.Proofs.Ytjecgolakaiddaa.P
open Go.RowKit Go.Proofs.YtjecgolakaiddaaW.PrintWords Go.Proofs.YtjecgolakaiddaaW.PrintLast Go.Proofs.YtjecgolakaiddaaW.PrintMore
attribute [local go_sem] max2_int min2_int max_two min_two max_three min_three max_four min_four
set_option linter.unusedVariables false
set_option linter.unusedSimpArgs false
def impl_IsStable.f (k : Nat) (a0_0 : Int) (l0_1 : List (S70)) (l1 : List Int) (a2 : Int) : Option (Bool) := (impl_PileOk.f k a0_0 l0_1 l1 a2).bind fun t102 => (if t102 = true then ((impl_unstable.f k a0_0 l0_1 l1 a2).bind fun t103 => (some (decide (t103 < 0)))) else (some false))
theorem impl_IsStable.mono : ∀ a0 a1 a2 a3 k, LeO (impl_IsStable.f k a0 a1 a2 a3) (impl_IsStable.f (k + 1) a0 a1 a2 a3) := by
  intro a0 a1 a2 a3 k; unfold impl_IsStable.f
  repeat' first
      | (with_reducible exact impl_PileOk.mono _ _ _ _ _)
      | (with_reducible exact impl_unstable.mono _ _ _ _ _)
      | (with_reducible exact LeO.refl _)
      | (with_reducible exact LeO.none _)
      | (with_reducible refine LeO.ite ?_ ?_)
      | (with_reducible refine LeO.bind ?_ (fun _ => ?_))
      | exact impl_PileOk.mono _ _ _ _ _
      | exact impl_unstable.mono _ _ _ _ _
      | exact LeO.none _
      | refine LeO.ite ?_ ?_
      | refine LeO.bind ?_ (fun _ => ?_)
set_option maxHeartbeats 8000000 in
set_option maxRecDepth 100000 in
theorem impl_IsStable.calls (k : Nat) (a0_0 : Int) (A0_1 : Option Addr) (c0_1 : Nat) (l0_1 : List (S70)) (A1 : Option Addr) (c1 : Nat) (l1 : List Int) (a2 : Int) (r : Bool) (w : World) (hr0_1 : Kd.C k70 w A0_1 l0_1.length l0_1) (hc0_1 : l0_1.length ≤ c0_1) (hr1 : Kd.C (Kd.int .i64) w A1 l1.length l1) (hc1 : l1.length ≤ c1) (h : impl_IsStable.f k a0_0 l0_1 l1 a2 = some r) :
    Calls Try.prog 153 #[.agg #[.int .i64 a0_0, .slice A0_1 l0_1.length c0_1], .slice A1 l1.length c1, .int .i64 a2] w fun e w' => e = .returned (.bool r) ∧ Below w.heap.size w w' := by
  have hu38 := Try.underlying38; have HR0_1 := Aside0.mk hr0_1; have HC0_1 := Aside0.mk hc0_1; clear hr0_1 hc0_1; have HR1 := Aside0.mk hr1; have HC1 := Aside0.mk hc1; clear hr1 hc1; have HB := Aside0.mk (Below.refl w.heap.size w); have H : ((impl_PileOk.f k a0_0 l0_1 l1 a2).bind fun t102 => (if t102 = true then ((impl_unstable.f k a0_0 l0_1 l1 a2).bind fun t103 => (some (decide (t103 < 0)))) else (some false))) = some r := h; clear h; replace H := Option.bind_eq_some_iff.mp H; obtain ⟨t102, A40, H⟩ := H; replace H : (if t102 = true then ((impl_unstable.f k a0_0 l0_1 l1 a2).bind fun t103 => (some (decide (t103 < 0)))) else (some false)) = some r := H; have A4 := Aside0.mk A40; clear A40; by_cases c5 : t102 = true; rotate_left
  · replace c5 := Bool.eq_false_iff.mpr c5; subst c5; (have H1 : (some false) = some r := by rw [if_neg (show ¬ (false = true) by decide)] at H; exact H); clear H; have H := H1; clear H1; obtain rfl := Option.some.inj H; go_enter Try.func153, Try.ntmps153; (go_wp2_with (first | ((with_reducible refine gate_dst (N := 3) rfl ?_); refine box_event ?hg (N := 3) ?hd (cs := #[.int .i64 a0_0, .slice A0_1 l0_1.length c0_1]) (t := 38) ?hr ?_; (case hd => rfl); (case hg => rfl); (case hr => first | (go_simp; done) | (go_simp; rfl)); intro gb101 hg w12 hbox hb; have n0_ := Aside0.mk (below_step zz1 hb); have n1_ := Aside0.mk (hbox); have n2_ := Aside0.mk ((zz7 : w.heap.size ≤ gb101)); have n3_ := Aside0.mk ((zz7 : w.heap.size ≤ gb101)); clear HB; have HB := n0_; have BK101 := n1_; have GW101 := n2_; have GE101 := n3_; clear n0_ n1_ n2_ n3_; clear hb hbox hg; have hcz13_0 : w12.cell? ⟨gb101, 0, none⟩ = some (.int .i64 a0_0) := (blk_cell BK101.out 0).trans rfl; have hcz13_1 : w12.cell? ⟨gb101, 1, none⟩ = some (.slice A0_1 l0_1.length c0_1) := (blk_cell BK101.out 1).trans rfl; have hfz13_0 := blk_frozen BK101.out 0; have hfz13_1 := blk_frozen BK101.out 1) | ((with_reducible refine gate_callee (f := 136) rfl ?_); refine goesL_ (some 10) rfl rfl Try.func136 (by kernel_rfl) rfl #[.agg #[.int .i64 a0_0, .slice A0_1 l0_1.length c0_1], .slice A1 l1.length c1, .int .i64 a2] rfl zz4 ?_; (with_reducible refine (impl_PileOk.calls k a0_0 _ _ l0_1 _ _ l1 a2 false _ ?side1 ?side2 ?side3 ?side4 A4.out).mono ?_); (case side1 => repeat (first | exact (Kd.C_below HR0_1.out HB.out) | (with_reducible refine Kd.C_alloc ?_ _) | (with_reducible refine Kd.C_drewN ?_ _) | (with_reducible refine Kd.C_drew ?_))); (case side2 => exact HC0_1.out); (case side3 => repeat (first | exact (Kd.C_below HR1.out HB.out) | (with_reducible refine Kd.C_alloc ?_ _) | (with_reducible refine Kd.C_drewN ?_ _) | (with_reducible refine Kd.C_drew ?_))); (case side4 => exact HC1.out); rintro e w14 ⟨rfl, hb⟩; refine ⟨_, rfl, ?_⟩; have n0_ := Aside0.mk (blk_below (g := gb101) (o := .cells #[.int .i64 a0_0, .slice A0_1 l0_1.length c0_1] 38 (0, 0)) zz2 hb); have n1_ := Aside0.mk (below_step zz0 hb); clear BK101; clear HB; have BK101 := n0_; have HB := n1_; clear n0_ n1_; (try clear hb); (try clear hb2); (try clear hk); (try clear hi)))); go_ret; exact ⟨by first | rfl | (simp [errW_none, errW_some] <;> rfl) | (simp [*, errW_none, errW_some] <;> rfl), by repeat (first | (with_reducible first | exact HB.out | apply below_alloc | apply pw_below_drewN | apply below_drew1 | refine below_set ?_ GE101.out) | exact HB.out)⟩
  subst c5; (have H1 : ((impl_unstable.f k a0_0 l0_1 l1 a2).bind fun t103 => (some (decide (t103 < 0)))) = some r := by rw [if_pos rfl] at H; exact H); clear H; have H := H1; clear H1; replace H := Option.bind_eq_some_iff.mp H; obtain ⟨t103, A60, H⟩ := H; replace H : (some (decide (t103 < 0))) = some r := H; have A6 := Aside0.mk A60; clear A60; obtain rfl := Option.some.inj H; go_enter Try.func153, Try.ntmps153; (go_wp2_with (first | ((with_reducible refine gate_dst (N := 3) rfl ?_); refine box_event ?hg (N := 3) ?hd (cs := #[.int .i64 a0_0, .slice A0_1 l0_1.length c0_1]) (t := 38) ?hr ?_; (case hd => rfl); (case hg => rfl); (case hr => first | (go_simp; done) | (go_simp; rfl)); intro gb101 hg w7 hbox hb; have n0_ := Aside0.mk (below_step zz1 hb); have n1_ := Aside0.mk (hbox); have n2_ := Aside0.mk ((zz7 : w.heap.size ≤ gb101)); have n3_ := Aside0.mk ((zz7 : w.heap.size ≤ gb101)); clear HB; have HB := n0_; have BK101 := n1_; have GW101 := n2_; have GE101 := n3_; clear n0_ n1_ n2_ n3_; clear hb hbox hg; have hcz8_0 : w7.cell? ⟨gb101, 0, none⟩ = some (.int .i64 a0_0) := (blk_cell BK101.out 0).trans rfl; have hcz8_1 : w7.cell? ⟨gb101, 1, none⟩ = some (.slice A0_1 l0_1.length c0_1) := (blk_cell BK101.out 1).trans rfl; have hfz8_0 := blk_frozen BK101.out 0; have hfz8_1 := blk_frozen BK101.out 1) | ((with_reducible refine gate_callee (f := 136) rfl ?_); refine goesL_ (some 10) rfl rfl Try.func136 (by kernel_rfl) rfl #[.agg #[.int .i64 a0_0, .slice A0_1 l0_1.length c0_1], .slice A1 l1.length c1, .int .i64 a2] rfl zz4 ?_; (with_reducible refine (impl_PileOk.calls k a0_0 _ _ l0_1 _ _ l1 a2 true _ ?side1 ?side2 ?side3 ?side4 A4.out).mono ?_); (case side1 => repeat (first | exact (Kd.C_below HR0_1.out HB.out) | (with_reducible refine Kd.C_alloc ?_ _) | (with_reducible refine Kd.C_drewN ?_ _) | (with_reducible refine Kd.C_drew ?_))); (case side2 => exact HC0_1.out); (case side3 => repeat (first | exact (Kd.C_below HR1.out HB.out) | (with_reducible refine Kd.C_alloc ?_ _) | (with_reducible refine Kd.C_drewN ?_ _) | (with_reducible refine Kd.C_drew ?_))); (case side4 => exact HC1.out); rintro e w9 ⟨rfl, hb⟩; refine ⟨_, rfl, ?_⟩; have n0_ := Aside0.mk (blk_below (g := gb101) (o := .cells #[.int .i64 a0_0, .slice A0_1 l0_1.length c0_1] 38 (0, 0)) zz2 hb); have n1_ := Aside0.mk (below_step zz0 hb); clear BK101; clear HB; have BK101 := n0_; have HB := n1_; clear n0_ n1_; (try clear hb); (try clear hb2); (try clear hk); (try clear hi); have hcz10_0 : w9.cell? ⟨gb101, 0, none⟩ = some (.int .i64 a0_0) := (blk_cell BK101.out 0).trans rfl; have hcz10_1 : w9.cell? ⟨gb101, 1, none⟩ = some (.slice A0_1 l0_1.length c0_1) := (blk_cell BK101.out 1).trans rfl; have hfz10_0 := blk_frozen BK101.out 0; have hfz10_1 := blk_frozen BK101.out 1) | (go_at_call 186; (with_reducible refine (impl_unstable.calls k a0_0 _ _ l0_1 _ _ l1 a2 t103 _ ?side1 ?side2 ?side3 ?side4 A6.out).mono ?_); (case side1 => repeat (first | exact (Kd.C_below HR0_1.out HB.out) | (with_reducible refine Kd.C_alloc ?_ _) | (with_reducible refine Kd.C_drewN ?_ _) | (with_reducible refine Kd.C_drew ?_))); (case side2 => exact HC0_1.out); (case side3 => repeat (first | exact (Kd.C_below HR1.out HB.out) | (with_reducible refine Kd.C_alloc ?_ _) | (with_reducible refine Kd.C_drewN ?_ _) | (with_reducible refine Kd.C_drew ?_))); (case side4 => exact HC1.out); rintro e w11 ⟨rfl, hb⟩; have n0_ := Aside0.mk (blk_below (g := gb101) (o := .cells #[.int .i64 a0_0, .slice A0_1 l0_1.length c0_1] 38 (0, 0)) zz2 hb); have n1_ := Aside0.mk (below_step zz0 hb); clear BK101; clear HB; have BK101 := n0_; have HB := n1_; clear n0_ n1_; (try clear hb); (try clear hb2); (try clear hk); (try clear hi)))); go_ret; exact ⟨by first | rfl | (simp [errW_none, errW_some] <;> rfl) | (simp [*, errW_none, errW_some] <;> rfl), by repeat (first | (with_reducible first | exact HB.out | apply below_alloc | apply pw_below_drewN | apply below_drew1 | refine below_set ?_ GE101.out) | exact HB.out)⟩
end Go.Proofs.Ytjecgolakaiddaa.P
end

section
namespace Go.Proofs.Ytjecgolakaiddaa.P
open Go.RowKit Go.Proofs.YtjecgolakaiddaaW.PrintWords Go.Proofs.YtjecgolakaiddaaW.PrintLast Go.Proofs.YtjecgolakaiddaaW.PrintMore
attribute [local go_sem] max2_int min2_int max_two min_two max_three min_three max_four min_four
set_option linter.unusedVariables false
set_option linter.unusedSimpArgs false
def slices_Equal_int_int.l0 : Nat → List Int → List Int → Int → Int → Option (Bool)
  | 0, _, _, _, _ => none
  | k + 1, x0, x1, x12, x13 => if x13 < x12 then (if 0 ≤ x13 then (if x13 < (x0.length : Int) then (if x13 < (x1.length : Int) then (if (rd x0 x13) = (rd x1 x13) then (slices_Equal_int_int.l0 k x0 x1 x12 (wrap64 (x13 + 1))) else (some false)) else (none)) else (none)) else (none)) else (some true)
def slices_Equal_int_int.f (k : Nat) (l0 : List Int) (l1 : List Int) : Option (Bool) := if (l0.length : Int) = (l1.length : Int) then (slices_Equal_int_int.l0 k l0 l1 (l0.length : Int) 0) else (some false)
theorem slices_Equal_int_int.mono_l : ∀ k, (∀ y0 y1 y2 y3, LeO (slices_Equal_int_int.l0 k y0 y1 y2 y3) (slices_Equal_int_int.l0 (k + 1) y0 y1 y2 y3))
  | 0 => fun _ _ _ _ r h => by simp [slices_Equal_int_int.l0] at h
  | k + 1 => by
    have ih0 := slices_Equal_int_int.mono_l k
    · intro y0 y1 y2 y3
      unfold slices_Equal_int_int.l0
      repeat' first
      | (with_reducible exact ih0 _ _ _ _)
      | (with_reducible exact LeO.refl _)
      | (with_reducible exact LeO.none _)
      | (with_reducible refine LeO.ite ?_ ?_)
      | (with_reducible refine LeO.bind ?_ (fun _ => ?_))
      | exact ih0 _ _ _ _
      | exact LeO.none _
      | refine LeO.ite ?_ ?_
      | refine LeO.bind ?_ (fun _ => ?_)
theorem slices_Equal_int_int.mono : ∀ a0 a1 k, LeO (slices_Equal_int_int.f k a0 a1) (slices_Equal_int_int.f (k + 1) a0 a1) := by
  intro a0 a1 k; have ih0 := slices_Equal_int_int.mono_l k; unfold slices_Equal_int_int.f
  repeat' first
      | (with_reducible exact ih0 _ _ _ _)
      | (with_reducible exact LeO.refl _)
      | (with_reducible exact LeO.none _)
      | (with_reducible refine LeO.ite ?_ ?_)
      | (with_reducible refine LeO.bind ?_ (fun _ => ?_))
      | exact ih0 _ _ _ _
      | exact LeO.none _
      | refine LeO.ite ?_ ?_
      | refine LeO.bind ?_ (fun _ => ?_)
set_option maxHeartbeats 8000000 in
set_option maxRecDepth 100000 in
theorem slices_Equal_int_int.calls (k : Nat) (A0 : Option Addr) (c0 : Nat) (l0 : List Int) (A1 : Option Addr) (c1 : Nat) (l1 : List Int) (r : Bool) (w : World) (hr0 : Kd.C (Kd.int .i64) w A0 l0.length l0) (hc0 : l0.length ≤ c0) (hr1 : Kd.C (Kd.int .i64) w A1 l1.length l1) (hc1 : l1.length ≤ c1) (h : slices_Equal_int_int.f k l0 l1 = some r) :
    Calls Try.prog 139 #[.slice A0 l0.length c0, .slice A1 l1.length c1] w fun e w' => e = .returned (.bool r) ∧ Drawn0 w w' := by
  have HR0 := Aside0.mk hr0; have HC0 := Aside0.mk hc0; clear hr0 hc0; have HR1 := Aside0.mk hr1; have HC1 := Aside0.mk hc1; clear hr1 hc1; have H : (if (l0.length : Int) = (l1.length : Int) then (slices_Equal_int_int.l0 k l0 l1 (l0.length : Int) 0) else (some false)) = some r := h; clear h; by_cases c3 : (l0.length : Int) = (l1.length : Int); rotate_left
  · rw [if_neg c3] at H; have c3b0 : ((l0.length : Int) == (l1.length : Int)) = false := beq_eq_false_iff_ne.mpr c3; have c3b1 : ((l0.length : Int) != (l1.length : Int)) = true := bne_iff_ne.mpr c3; (have c3b2 : (l0.length == l1.length) = false := by first | simpa using c3 | (simp at c3 ⊢; omega)); obtain rfl := Option.some.inj H; go_enter Try.func139, Try.ntmps139; go_wp2; (repeat (go_quiet (fail); try go_wp2)); go_ret; exact ⟨by first | rfl | (simp; done) | (simp [*]; done), by repeat (first | exact Drawn0.refl _ | apply Drawn0.step)⟩
  rw [if_pos c3] at H; have c3b0 : ((l0.length : Int) == (l1.length : Int)) = true := beq_iff_eq.mpr c3; have c3b1 : ((l0.length : Int) != (l1.length : Int)) = false := bne_eq_false_iff_eq.mpr c3; (have c3b2 : (l0.length == l1.length) = true := by first | simpa using c3 | (simp at c3 ⊢; omega)); clear c3; have H' := Aside0.mk H; clear H; go_enter Try.func139, Try.ntmps139; go_wp2; (repeat (go_quiet (fail); try go_wp2)); (go_loopg [13] k (fun kq v13 w' => ∃ (x13_1 : Int), v13 = .int .i64 x13_1 ∧ Aside0 (slices_Equal_int_int.l0 kq l0 l1 (l0.length : Int) x13_1 = some r) ∧ Aside0 (kq ≤ k) ∧ Drawn0 w w')); case atStart => exact ⟨(0), zz6, H', ⟨Nat.le_refl _⟩, by repeat (first | exact Drawn0.refl _ | apply Drawn0.step)⟩
  case round =>
    clear H'; (try clear c1); (try clear p2); (try clear c3); (try clear c3b0); (try clear c3b1); (try clear c3b2); obtain ⟨x13_1, rfl, HA, HK1, ⟨m1, rfl⟩⟩ := hrel
    cases gk with
    | zero => exact absurd HA.out (by simp [slices_Equal_int_int.l0])
    | succ k1 =>
      have H := HA.out; clear HA; simp only [slices_Equal_int_int.l0] at H; by_cases c4 : x13_1 < (l0.length : Int); rotate_left
      · rw [if_neg c4] at H; have c4b0 : decide (x13_1 < (l0.length : Int)) = false := decide_eq_false c4; clear c4; obtain rfl := Option.some.inj H; go_wp2; (repeat (go_quiet (fail); try go_wp2)); go_ret; exact ⟨by first | rfl | (simp; done) | (simp [*]; done), by repeat (first | exact Drawn0.refl _ | apply Drawn0.step)⟩
      rw [if_pos c4] at H; have c4b0 : decide (x13_1 < (l0.length : Int)) = true := decide_eq_true c4; clear c4; by_cases c5 : 0 ≤ x13_1; rotate_left
      · rw [if_neg c5] at H; exact absurd H (by simp)
      rw [if_pos c5] at H; have c5b0 : decide (0 ≤ x13_1) = true := decide_eq_true c5; clear c5; by_cases c6 : x13_1 < (l0.length : Int); rotate_left
      · rw [if_neg c6] at H; exact absurd H (by simp)
      rw [if_pos c6] at H; have c6b0 : decide (x13_1 < (l0.length : Int)) = true := decide_eq_true c6; clear c6; by_cases c7 : x13_1 < (l1.length : Int); rotate_left
      · rw [if_neg c7] at H; exact absurd H (by simp)
      rw [if_pos c7] at H; have c7b0 : decide (x13_1 < (l1.length : Int)) = true := decide_eq_true c7; clear c7; by_cases c8 : (rd l0 x13_1) = (rd l1 x13_1); rotate_left
      · rw [if_neg c8] at H; have c8b0 : ((rd l0 x13_1) == (rd l1 x13_1)) = false := beq_eq_false_iff_ne.mpr c8; have c8b1 : ((rd l0 x13_1) != (rd l1 x13_1)) = true := bne_iff_ne.mpr c8; obtain rfl := Option.some.inj H; have p101 : 0 ≤ (x13_1 : Int) := of_decide_eq_true zz3; have q101 : x13_1 < (l0.length : Int) := of_decide_eq_true zz3; obtain ⟨ad101, e101, hx101_0⟩ := Kd.at_int HR0.out x13_1 p101 q101; cases e101; replace p101 := eq_true p101; replace q101 := eq_true q101; have p102 : 0 ≤ (x13_1 : Int) := of_decide_eq_true zz3; have q102 : x13_1 < (l1.length : Int) := of_decide_eq_true zz3; obtain ⟨ad102, e102, hx102_0⟩ := Kd.at_int HR1.out x13_1 p102 q102; cases e102; replace p102 := eq_true p102; replace q102 := eq_true q102; go_wp2; (repeat (go_quiet (fail); try go_wp2)); go_ret; exact ⟨by first | rfl | (simp; done) | (simp [*]; done), by repeat (first | exact Drawn0.refl _ | apply Drawn0.step)⟩
      rw [if_pos c8] at H; have c8b0 : ((rd l0 x13_1) == (rd l1 x13_1)) = true := beq_iff_eq.mpr c8; have c8b1 : ((rd l0 x13_1) != (rd l1 x13_1)) = false := bne_eq_false_iff_eq.mpr c8; clear c8; have H' := Aside0.mk H; clear H; have p101 : 0 ≤ (x13_1 : Int) := of_decide_eq_true zz3; have q101 : x13_1 < (l0.length : Int) := of_decide_eq_true zz3; obtain ⟨ad101, e101, hx101_0⟩ := Kd.at_int HR0.out x13_1 p101 q101; cases e101; replace p101 := eq_true p101; replace q101 := eq_true q101; have p102 : 0 ≤ (x13_1 : Int) := of_decide_eq_true zz3; have q102 : x13_1 < (l1.length : Int) := of_decide_eq_true zz3; obtain ⟨ad102, e102, hx102_0⟩ := Kd.at_int HR1.out x13_1 p102 q102; cases e102; replace p102 := eq_true p102; replace q102 := eq_true q102; go_wp2; (repeat (go_quiet (fail); try go_wp2)); go_roundg k1; (case measure => have := HK1.out; omega); case rel => exact ⟨(wrap64 (x13_1 + 1)), zz6, H', ⟨by have := HK1.out; omega⟩, by repeat (first | exact Drawn0.refl _ | apply Drawn0.step)⟩
end Go.Proofs.Ytjecgolakaiddaa.P
end

section
namespace Go.Proofs.Ytjecgolakaiddaa.P
open Go.RowKit Go.Proofs.YtjecgolakaiddaaW.PrintWords Go.Proofs.YtjecgolakaiddaaW.PrintLast Go.Proofs.YtjecgolakaiddaaW.PrintMore
attribute [local go_sem] max2_int min2_int max_two min_two max_three min_three max_four min_four
set_option linter.unusedVariables false
set_option linter.unusedSimpArgs false
def impl_SameDivisor.f (k : Nat) (l0 : List Int) (l1 : List Int) : Option (Bool) := (slices_Equal_int_int.f k l0 l1).bind fun t101 => (some t101)
theorem impl_SameDivisor.mono : ∀ a0 a1 k, LeO (impl_SameDivisor.f k a0 a1) (impl_SameDivisor.f (k + 1) a0 a1) := by
  intro a0 a1 k; unfold impl_SameDivisor.f
  repeat' first
      | (with_reducible exact slices_Equal_int_int.mono _ _ _)
      | (with_reducible exact LeO.refl _)
      | (with_reducible exact LeO.none _)
      | (with_reducible refine LeO.ite ?_ ?_)
      | (with_reducible refine LeO.bind ?_ (fun _ => ?_))
      | exact slices_Equal_int_int.mono _ _ _
      | exact LeO.none _
      | refine LeO.ite ?_ ?_
      | refine LeO.bind ?_ (fun _ => ?_)
set_option maxHeartbeats 8000000 in
set_option maxRecDepth 100000 in
theorem impl_SameDivisor.calls (k : Nat) (A0 : Option Addr) (c0 : Nat) (l0 : List Int) (A1 : Option Addr) (c1 : Nat) (l1 : List Int) (r : Bool) (w : World) (hr0 : Kd.C (Kd.int .i64) w A0 l0.length l0) (hc0 : l0.length ≤ c0) (hr1 : Kd.C (Kd.int .i64) w A1 l1.length l1) (hc1 : l1.length ≤ c1) (h : impl_SameDivisor.f k l0 l1 = some r) :
    Calls Try.prog 154 #[.slice A0 l0.length c0, .slice A1 l1.length c1] w fun e w' => e = .returned (.bool r) ∧ Drawn0 w w' := by
  have HR0 := Aside0.mk hr0; have HC0 := Aside0.mk hc0; clear hr0 hc0; have HR1 := Aside0.mk hr1; have HC1 := Aside0.mk hc1; clear hr1 hc1; have H : ((slices_Equal_int_int.f k l0 l1).bind fun t101 => (some t101)) = some r := h; clear h; replace H := Option.bind_eq_some_iff.mp H; obtain ⟨t101, A30, H⟩ := H; replace H : (some t101) = some r := H; have A3 := Aside0.mk A30; clear A30; obtain rfl := Option.some.inj H; go_enter Try.func154, Try.ntmps154; (go_wp2_with (first | ((with_reducible refine gate_callee (f := 139) rfl ?_); refine goesL_ (some 7) rfl rfl Try.func139 (by kernel_rfl) rfl #[.slice A0 l0.length c0, .slice A1 l1.length c1] rfl zz4 ?_; (with_reducible refine (slices_Equal_int_int.calls k _ _ l0 _ _ l1 t101 _ ?side1 ?side2 ?side3 ?side4 A3.out).mono ?_); (case side1 => repeat (first | exact HR0.out | (with_reducible refine Kd.C_alloc ?_ _) | (with_reducible refine Kd.C_drewN ?_ _) | (with_reducible refine Kd.C_drew ?_))); (case side2 => exact HC0.out); (case side3 => repeat (first | exact HR1.out | (with_reducible refine Kd.C_alloc ?_ _) | (with_reducible refine Kd.C_drewN ?_ _) | (with_reducible refine Kd.C_drew ?_))); (case side4 => exact HC1.out); rintro e w' ⟨rfl, ⟨nd, rfl⟩⟩; refine ⟨_, rfl, ?_⟩))); go_ret; exact ⟨by first | rfl | (simp; done) | (simp [*]; done), by repeat (first | exact Drawn0.refl _ | apply Drawn0.step)⟩
end Go.Proofs.Ytjecgolakaiddaa.P
end

section
namespace Go.Proofs.Ytjecgolakaiddaa.P
open Go.RowKit Go.Proofs.YtjecgolakaiddaaW.PrintWords Go.Proofs.YtjecgolakaiddaaW.PrintLast Go.Proofs.YtjecgolakaiddaaW.PrintMore
attribute [local go_sem] max2_int min2_int max_two min_two max_three min_three max_four min_four
set_option linter.unusedVariables false
set_option linter.unusedSimpArgs false
def impl_IsRecurrent.l0 : Nat → List Int → Int → List Int → List Int → Int → Int → Option (Bool)
  | 0, _, _, _, _, _, _ => none
  | k + 1, x1, x2, x8, x33, x34, x35 => if x35 < x34 then (if 0 ≤ x35 then (if x35 < (x33.length : Int) then (if x35 = x2 then (impl_IsRecurrent.l0 k x1 x2 x8 x33 x34 (wrap64 (x35 + 1))) else (if (rd x33 x35) = 1 then (impl_IsRecurrent.l0 k x1 x2 x8 x33 x34 (wrap64 (x35 + 1))) else (some false))) else (none)) else (none)) else ((impl_SameDivisor.f k x8 x1).bind fun t115 => (some t115))
def impl_IsRecurrent.f (k : Nat) (a0_0 : Int) (l0_1 : List (S70)) (l1 : List Int) (a2 : Int) : Option (Bool) := (impl_IsStable.f k a0_0 l0_1 l1 a2).bind fun t102 => (if t102 = true then ((impl_copyInts.f l1).bind fun t103 => ((impl_fire.f k a0_0 l0_1 t103 a2 1).bind fun t106 => (if 0 ≤ a2 then (if a2 < (t103.length : Int) then ((impl_stabilize.f k a0_0 l0_1 (t106.set (a2 : Int).toNat 0) a2).bind fun bt108 => (impl_IsRecurrent.l0 k l1 a2 bt108.1 bt108.2 (bt108.2.length : Int) 0)) else (none)) else (none)))) else (some false))
theorem impl_IsRecurrent.mono_l : ∀ k, (∀ y0 y1 y2 y3 y4 y5, LeO (impl_IsRecurrent.l0 k y0 y1 y2 y3 y4 y5) (impl_IsRecurrent.l0 (k + 1) y0 y1 y2 y3 y4 y5))
  | 0 => fun _ _ _ _ _ _ r h => by simp [impl_IsRecurrent.l0] at h
  | k + 1 => by
    have ih0 := impl_IsRecurrent.mono_l k
    · intro y0 y1 y2 y3 y4 y5
      unfold impl_IsRecurrent.l0
      repeat' first
      | (with_reducible exact ih0 _ _ _ _ _ _)
      | (with_reducible exact impl_IsStable.mono _ _ _ _ _)
      | (with_reducible exact impl_SameDivisor.mono _ _ _)
      | (with_reducible exact impl_fire.mono _ _ _ _ _ _)
      | (with_reducible exact impl_stabilize.mono _ _ _ _ _)
      | (with_reducible exact LeO.refl _)
      | (with_reducible exact LeO.none _)
      | (with_reducible refine LeO.ite ?_ ?_)
      | (with_reducible refine LeO.bind ?_ (fun _ => ?_))
      | exact ih0 _ _ _ _ _ _
      | exact impl_IsStable.mono _ _ _ _ _
      | exact impl_SameDivisor.mono _ _ _
      | exact impl_fire.mono _ _ _ _ _ _
      | exact impl_stabilize.mono _ _ _ _ _
      | exact LeO.none _
      | refine LeO.ite ?_ ?_
      | refine LeO.bind ?_ (fun _ => ?_)
theorem impl_IsRecurrent.mono : ∀ a0 a1 a2 a3 k, LeO (impl_IsRecurrent.f k a0 a1 a2 a3) (impl_IsRecurrent.f (k + 1) a0 a1 a2 a3) := by
  intro a0 a1 a2 a3 k; have ih0 := impl_IsRecurrent.mono_l k; unfold impl_IsRecurrent.f
  repeat' first
      | (with_reducible exact ih0 _ _ _ _ _ _)
      | (with_reducible exact impl_IsStable.mono _ _ _ _ _)
      | (with_reducible exact impl_SameDivisor.mono _ _ _)
      | (with_reducible exact impl_fire.mono _ _ _ _ _ _)
      | (with_reducible exact impl_stabilize.mono _ _ _ _ _)
      | (with_reducible exact LeO.refl _)
      | (with_reducible exact LeO.none _)
      | (with_reducible refine LeO.ite ?_ ?_)
      | (with_reducible refine LeO.bind ?_ (fun _ => ?_))
      | exact ih0 _ _ _ _ _ _
      | exact impl_IsStable.mono _ _ _ _ _
      | exact impl_SameDivisor.mono _ _ _
      | exact impl_fire.mono _ _ _ _ _ _
      | exact impl_stabilize.mono _ _ _ _ _
      | exact LeO.none _
      | refine LeO.ite ?_ ?_
      | refine LeO.bind ?_ (fun _ => ?_)
set_option maxHeartbeats 8000000 in
set_option maxRecDepth 100000 in
theorem impl_IsRecurrent.calls (k : Nat) (a0_0 : Int) (A0_1 : Option Addr) (c0_1 : Nat) (l0_1 : List (S70)) (A1 : Option Addr) (c1 : Nat) (l1 : List Int) (a2 : Int) (r : Bool) (w : World) (hr0_1 : Kd.C k70 w A0_1 l0_1.length l0_1) (hc0_1 : l0_1.length ≤ c0_1) (hr1 : Kd.C (Kd.int .i64) w A1 l1.length l1) (hc1 : l1.length ≤ c1) (h : impl_IsRecurrent.f k a0_0 l0_1 l1 a2 = some r) :
    Calls Try.prog 79 #[.agg #[.int .i64 a0_0, .slice A0_1 l0_1.length c0_1], .slice A1 l1.length c1, .int .i64 a2] w fun e w' => e = .returned (.bool r) ∧ Below w.heap.size w w' := by
  have hu38 := Try.underlying38; have HR0_1 := Aside0.mk hr0_1; have HC0_1 := Aside0.mk hc0_1; clear hr0_1 hc0_1; have HR1 := Aside0.mk hr1; have HC1 := Aside0.mk hc1; clear hr1 hc1; have HB := Aside0.mk (Below.refl w.heap.size w); have H : ((impl_IsStable.f k a0_0 l0_1 l1 a2).bind fun t102 => (if t102 = true then ((impl_copyInts.f l1).bind fun t103 => ((impl_fire.f k a0_0 l0_1 t103 a2 1).bind fun t106 => (if 0 ≤ a2 then (if a2 < (t103.length : Int) then ((impl_stabilize.f k a0_0 l0_1 (t106.set (a2 : Int).toNat 0) a2).bind fun bt108 => (impl_IsRecurrent.l0 k l1 a2 bt108.1 bt108.2 (bt108.2.length : Int) 0)) else (none)) else (none)))) else (some false))) = some r := h; clear h; replace H := Option.bind_eq_some_iff.mp H; obtain ⟨t102, A40, H⟩ := H; replace H : (if t102 = true then ((impl_copyInts.f l1).bind fun t103 => ((impl_fire.f k a0_0 l0_1 t103 a2 1).bind fun t106 => (if 0 ≤ a2 then (if a2 < (t103.length : Int) then ((impl_stabilize.f k a0_0 l0_1 (t106.set (a2 : Int).toNat 0) a2).bind fun bt108 => (impl_IsRecurrent.l0 k l1 a2 bt108.1 bt108.2 (bt108.2.length : Int) 0)) else (none)) else (none)))) else (some false)) = some r := H; have A4 := Aside0.mk A40; clear A40; by_cases c5 : t102 = true; rotate_left
  · replace c5 := Bool.eq_false_iff.mpr c5; subst c5; (have H1 : (some false) = some r := by rw [if_neg (show ¬ (false = true) by decide)] at H; exact H); clear H; have H := H1; clear H1; obtain rfl := Option.some.inj H; go_enter Try.func79, Try.ntmps79; (go_wp2_with (first | ((with_reducible refine gate_dst (N := 3) rfl ?_); refine box_event ?hg (N := 3) ?hd (cs := #[.int .i64 a0_0, .slice A0_1 l0_1.length c0_1]) (t := 38) ?hr ?_; (case hd => rfl); (case hg => rfl); (case hr => first | (go_simp; done) | (go_simp; rfl)); intro gb101 hg w31 hbox hb; have n0_ := Aside0.mk (below_step zz1 hb); have n1_ := Aside0.mk (hbox); have n2_ := Aside0.mk ((zz7 : w.heap.size ≤ gb101)); have n3_ := Aside0.mk ((zz7 : w.heap.size ≤ gb101)); clear HB; have HB := n0_; have BK101 := n1_; have GW101 := n2_; have GE101 := n3_; clear n0_ n1_ n2_ n3_; clear hb hbox hg; have hcz32_0 : w31.cell? ⟨gb101, 0, none⟩ = some (.int .i64 a0_0) := (blk_cell BK101.out 0).trans rfl; have hcz32_1 : w31.cell? ⟨gb101, 1, none⟩ = some (.slice A0_1 l0_1.length c0_1) := (blk_cell BK101.out 1).trans rfl; have hfz32_0 := blk_frozen BK101.out 0; have hfz32_1 := blk_frozen BK101.out 1) | ((with_reducible refine gate_callee (f := 153) rfl ?_); refine goesL_ (some 15) rfl rfl Try.func153 (by kernel_rfl) rfl #[.agg #[.int .i64 a0_0, .slice A0_1 l0_1.length c0_1], .slice A1 l1.length c1, .int .i64 a2] rfl zz4 ?_; (with_reducible refine (impl_IsStable.calls k a0_0 _ _ l0_1 _ _ l1 a2 false _ ?side1 ?side2 ?side3 ?side4 A4.out).mono ?_); (case side1 => repeat (first | exact (Kd.C_below HR0_1.out HB.out) | (with_reducible refine Kd.C_alloc ?_ _) | (with_reducible refine Kd.C_drewN ?_ _) | (with_reducible refine Kd.C_drew ?_))); (case side2 => exact HC0_1.out); (case side3 => repeat (first | exact (Kd.C_below HR1.out HB.out) | (with_reducible refine Kd.C_alloc ?_ _) | (with_reducible refine Kd.C_drewN ?_ _) | (with_reducible refine Kd.C_drew ?_))); (case side4 => exact HC1.out); rintro e w33 ⟨rfl, hb⟩; refine ⟨_, rfl, ?_⟩; have n0_ := Aside0.mk (blk_below (g := gb101) (o := .cells #[.int .i64 a0_0, .slice A0_1 l0_1.length c0_1] 38 (0, 0)) zz2 hb); have n1_ := Aside0.mk (below_step zz0 hb); clear BK101; clear HB; have BK101 := n0_; have HB := n1_; clear n0_ n1_; (try clear hb); (try clear hb2); (try clear hk); (try clear hi)))); go_ret; exact ⟨by first | rfl | (simp [errW_none, errW_some] <;> rfl) | (simp [*, errW_none, errW_some] <;> rfl), by repeat (first | (with_reducible first | exact HB.out | apply below_alloc | apply pw_below_drewN | apply below_drew1 | refine below_set ?_ GE101.out) | exact HB.out)⟩
  subst c5; (have H1 : ((impl_copyInts.f l1).bind fun t103 => ((impl_fire.f k a0_0 l0_1 t103 a2 1).bind fun t106 => (if 0 ≤ a2 then (if a2 < (t103.length : Int) then ((impl_stabilize.f k a0_0 l0_1 (t106.set (a2 : Int).toNat 0) a2).bind fun bt108 => (impl_IsRecurrent.l0 k l1 a2 bt108.1 bt108.2 (bt108.2.length : Int) 0)) else (none)) else (none)))) = some r := by rw [if_pos rfl] at H; exact H); clear H; have H := H1; clear H1; replace H := Option.bind_eq_some_iff.mp H; obtain ⟨t103, A60, H⟩ := H; replace H : ((impl_fire.f k a0_0 l0_1 t103 a2 1).bind fun t106 => (if 0 ≤ a2 then (if a2 < (t103.length : Int) then ((impl_stabilize.f k a0_0 l0_1 (t106.set (a2 : Int).toNat 0) a2).bind fun bt108 => (impl_IsRecurrent.l0 k l1 a2 bt108.1 bt108.2 (bt108.2.length : Int) 0)) else (none)) else (none))) = some r := H; have A6 := Aside0.mk A60; clear A60; replace H := Option.bind_eq_some_iff.mp H; obtain ⟨t106, A70, H⟩ := H; replace H : (if 0 ≤ a2 then (if a2 < (t103.length : Int) then ((impl_stabilize.f k a0_0 l0_1 (t106.set (a2 : Int).toNat 0) a2).bind fun bt108 => (impl_IsRecurrent.l0 k l1 a2 bt108.1 bt108.2 (bt108.2.length : Int) 0)) else (none)) else (none)) = some r := H; have A7 := Aside0.mk A70; clear A70; by_cases c8 : 0 ≤ a2; rotate_left
  · rw [if_neg c8] at H; exact absurd H (by simp)
  rw [if_pos c8] at H; have c8b0 : decide (0 ≤ a2) = true := decide_eq_true c8; clear c8; by_cases c9 : a2 < (t103.length : Int); rotate_left
  · rw [if_neg c9] at H; exact absurd H (by simp)
  rw [if_pos c9] at H; have c9b0 : decide (a2 < (t103.length : Int)) = true := decide_eq_true c9; clear c9; obtain ⟨y107, hy107⟩ : ∃ y_ : List Int, y_ = (t106.set (a2 : Int).toNat 0) := ⟨_, rfl⟩; (replace H : ((impl_stabilize.f k a0_0 l0_1 y107 a2).bind fun bt108 => (impl_IsRecurrent.l0 k l1 a2 bt108.1 bt108.2 (bt108.2.length : Int) 0)) = some r := by first | (rw [hy107]; with_reducible exact H) | (have H2_ := (Option.bind_some _ _).symm.trans H; rw [hy107]; with_reducible exact H2_) | (have H2_ := (Option.bind_some _ _).symm.trans H; with_reducible exact H2_) | with_reducible exact H | (rw [hy107]; exact H) | exact H); have Ny107 := Aside0.mk hy107; clear hy107; replace H := Option.bind_eq_some_iff.mp H; obtain ⟨⟨t108, t111⟩, A110, H⟩ := H; replace H : (impl_IsRecurrent.l0 k l1 a2 t108 t111 (t111.length : Int) 0) = some r := H; have A11 := Aside0.mk A110; clear A110; have H' := Aside0.mk H; clear H; go_enter Try.func79, Try.ntmps79; (go_wp2_with (first | ((with_reducible refine gate_dst (N := 3) rfl ?_); refine box_event ?hg (N := 3) ?hd (cs := #[.int .i64 a0_0, .slice A0_1 l0_1.length c0_1]) (t := 38) ?hr ?_; (case hd => rfl); (case hg => rfl); (case hr => first | (go_simp; done) | (go_simp; rfl)); intro gb101 hg w12 hbox hb; have n0_ := Aside0.mk (below_step zz1 hb); have n1_ := Aside0.mk (hbox); have n2_ := Aside0.mk ((zz7 : w.heap.size ≤ gb101)); have n3_ := Aside0.mk ((zz7 : w.heap.size ≤ gb101)); clear HB; have HB := n0_; have BK101 := n1_; have GW101 := n2_; have GE101 := n3_; clear n0_ n1_ n2_ n3_; clear hb hbox hg; have hcz13_0 : w12.cell? ⟨gb101, 0, none⟩ = some (.int .i64 a0_0) := (blk_cell BK101.out 0).trans rfl; have hcz13_1 : w12.cell? ⟨gb101, 1, none⟩ = some (.slice A0_1 l0_1.length c0_1) := (blk_cell BK101.out 1).trans rfl; have hfz13_0 := blk_frozen BK101.out 0; have hfz13_1 := blk_frozen BK101.out 1) | ((with_reducible refine gate_callee (f := 153) rfl ?_); refine goesL_ (some 15) rfl rfl Try.func153 (by kernel_rfl) rfl #[.agg #[.int .i64 a0_0, .slice A0_1 l0_1.length c0_1], .slice A1 l1.length c1, .int .i64 a2] rfl zz4 ?_; (with_reducible refine (impl_IsStable.calls k a0_0 _ _ l0_1 _ _ l1 a2 true _ ?side1 ?side2 ?side3 ?side4 A4.out).mono ?_); (case side1 => repeat (first | exact (Kd.C_below HR0_1.out HB.out) | (with_reducible refine Kd.C_alloc ?_ _) | (with_reducible refine Kd.C_drewN ?_ _) | (with_reducible refine Kd.C_drew ?_))); (case side2 => exact HC0_1.out); (case side3 => repeat (first | exact (Kd.C_below HR1.out HB.out) | (with_reducible refine Kd.C_alloc ?_ _) | (with_reducible refine Kd.C_drewN ?_ _) | (with_reducible refine Kd.C_drew ?_))); (case side4 => exact HC1.out); rintro e w14 ⟨rfl, hb⟩; refine ⟨_, rfl, ?_⟩; have n0_ := Aside0.mk (blk_below (g := gb101) (o := .cells #[.int .i64 a0_0, .slice A0_1 l0_1.length c0_1] 38 (0, 0)) zz2 hb); have n1_ := Aside0.mk (below_step zz0 hb); clear BK101; clear HB; have BK101 := n0_; have HB := n1_; clear n0_ n1_; (try clear hb); (try clear hb2); (try clear hk); (try clear hi)) | ((with_reducible refine gate_callee (f := 124) rfl ?_); refine goesL_ (some 18) rfl rfl Try.func124 (by kernel_rfl) rfl #[.slice A1 l1.length c1] rfl zz4 ?_; (with_reducible refine (impl_copyInts.calls _ _ l1 t103 _ ?side1 ?side2 A6.out).mono ?_); (case side1 => repeat (first | exact (Kd.C_below HR1.out HB.out) | (with_reducible refine Kd.C_alloc ?_ _) | (with_reducible refine Kd.C_drewN ?_ _) | (with_reducible refine Kd.C_drew ?_))); (case side2 => exact HC1.out); rintro e w15 ⟨v104, rfl, ho0, hb⟩; refine ⟨_, rfl, ?_⟩; have n0_ := Aside0.mk (Kd.R_lower ho0 (below_size zz0)); have n1_ := Aside0.mk (blk_below (g := gb101) (o := .cells #[.int .i64 a0_0, .slice A0_1 l0_1.length c0_1] 38 (0, 0)) zz2 hb); have n2_ := Aside0.mk (below_step zz0 hb); clear BK101; clear HB; have HO105 := n0_; have BK101 := n1_; have HB := n2_; clear n0_ n1_ n2_; (try clear hb); (try clear hb2); (try clear hk); (try clear hi); (try clear ho0); have hcz16_0 : w15.cell? ⟨gb101, 0, none⟩ = some (.int .i64 a0_0) := (blk_cell BK101.out 0).trans rfl; have hcz16_1 : w15.cell? ⟨gb101, 1, none⟩ = some (.slice A0_1 l0_1.length c0_1) := (blk_cell BK101.out 1).trans rfl; have hfz16_0 := blk_frozen BK101.out 0; have hfz16_1 := blk_frozen BK101.out 1; obtain ⟨Ao17, co17, eo17⟩ := Kd.R_slice HO105.out; subst eo17) | ((with_reducible refine gate_callee (f := 137) rfl ?_); refine goesL_ (some 22) rfl rfl Try.func137 (by kernel_rfl) rfl #[.agg #[.int .i64 a0_0, .slice A0_1 l0_1.length c0_1], .slice Ao17 t103.length co17, .int .i64 a2, .int .i64 1] rfl zz4 ?_; (with_reducible refine (impl_fire.calls k a0_0 _ _ l0_1 (fun k_ => some k_ = (.slice Ao17 t103.length co17 : Value).ownBlock) (.slice Ao17 t103.length co17) t103 a2 1 t106 w _ ?side1 ?side2 ?side3 ?side4 A7.out).mono ?_); (case side1 => repeat (first | (with_reducible first | exact HB.out | apply below_alloc | apply pw_below_drewN | apply below_drew1 | refine below_set ?_ GE101.out) | exact HB.out)); (case side2 => exact Kd.C_kept_came k70_heap HR0_1.out zz0 (fun k_ hs_ => (fun e_ => Kd.R_base HO105.out k_ e_.symm) hs_)); (case side3 => exact HC0_1.out); (case side4 => exact Kd.R_tight rfl HO105.out); rintro e w18 ⟨rfl, hy0, hb, hkp⟩; refine ⟨_, rfl, ?_⟩; have n0_ := Aside0.mk (blk_kept zz2 hkp (fun hs_ => (fun e_ => (Kd.R_ne HO105.out BK101.out (by decide)) e_) hs_)); have n1_ := Aside0.mk (Kd.R_reok rfl hy0 (fun k_ e_ => HO105.out.1 k_ e_)); have n2_ := Aside0.mk (hb); clear BK101; clear HO105; clear HB; have BK101 := n0_; have HO105 := n1_; have HB := n2_; clear n0_ n1_ n2_; (try clear hb); (try clear hkp); (try clear hy0); have p10 : 0 ≤ (a2 : Int) := of_decide_eq_true zz3; have q10 : (a2 : Int) < ((t103.length : Int) : Int) := of_decide_eq_true zz3; obtain ⟨go10, co10, eo10, gb10, gl10, cl10, HG10⟩ := Kd.R_form HO105.out (by first | omega | (have hlz_ := (Kd.R_reads' HO105.out).1; omega)); (first | cases eo10 | (injection eo10 with ea_ en_ ec_; (first | subst ea_ | (injection ea_ with ea_; subst ea_)); subst ec_; clear en_)); have GB10 := Aside0.mk gb10; have GG10 := Aside0.mk HG10; clear gb10 gl10 HG10; obtain ⟨hx10_0, hf10_0⟩ := Kd.R_celln 0 HO105.out (a2 : Int) p10 q10; replace p10 := eq_true p10; replace q10 := eq_true q10; obtain ⟨hy19_, hz19_⟩ := Kd.R_celln 0 HO105.out (a2 : Int) (of_decide_eq_true zz3) (of_decide_eq_true zz3); have HP19 := Kd.R_putg HO105.out (a2 : Int) 0) | ((with_reducible refine gate_store (t := 3) (p := 25) rfl ?_); refine store_event (t := 3) (p := 25) (v := ?vo_w20) (w1 := (w18.setCell ⟨go10, (a2 : Int).toNat, none⟩ (.int .i64 0))) ?hg ?ho ?hn ?hr ?_; (case ho => rfl); (case hg => rfl); (case hn => rfl); (case hr => first | (go_simp; done) | (go_simp; rfl)); intro w20 hw; have hg : w18.grownBy w20 (some go10) := (by rw [hw]; exact HP19.2); have hp_ : Kd.R (Kd.int .i64) 3 w20 w.heap.size (fun _ => True) (.slice (some ⟨go10, 0, none⟩) t103.length co17) y107 := (by rw [hw, Ny107.out]; exact HP19.1); clear HP19; have n0_ := Aside0.mk (blk_grown (g := gb101) (o := .cells #[.int .i64 a0_0, .slice A0_1 l0_1.length c0_1] 38 (0, 0)) zz2 hg (Kd.R_ne HO105.out BK101.out (by decide))); have n1_ := Aside0.mk (hp_); have n2_ := Aside0.mk ((by rw [hw]; exact below_set (HB.out) GB10.out : Below w.heap.size w w20)); clear BK101; clear HO105; clear HB; have BK101 := n0_; have HO105 := n1_; have HB := n2_; clear n0_ n1_ n2_; clear hg hw hp_; have hcz21_0 : w20.cell? ⟨gb101, 0, none⟩ = some (.int .i64 a0_0) := (blk_cell BK101.out 0).trans rfl; have hcz21_1 : w20.cell? ⟨gb101, 1, none⟩ = some (.slice A0_1 l0_1.length c0_1) := (blk_cell BK101.out 1).trans rfl; have hfz21_0 := blk_frozen BK101.out 0; have hfz21_1 := blk_frozen BK101.out 1) | ((with_reducible refine gate_callee (f := 143) rfl ?_); refine goesL_ (some 30) rfl rfl Try.func143 (by kernel_rfl) rfl #[.agg #[.int .i64 a0_0, .slice A0_1 l0_1.length c0_1], .slice (some ⟨go10, 0, none⟩) y107.length co17, .int .i64 a2] rfl (by (try simp only [List.map_toArray, List.map_cons, List.map_nil]); first | done | (rw [show y107.length = t103.length from (Kd.R_reads' HO105.out).1.symm] <;> rfl) | rfl | (simp only [List.length_drop, List.length_take]; rfl)) ?_; (with_reducible refine (impl_stabilize.calls k a0_0 _ _ l0_1 _ _ y107 a2 t108 t111 _ ?side1 ?side2 ?side3 ?side4 A11.out).mono ?_); (case side1 => repeat (first | exact (Kd.C_below HR0_1.out HB.out) | (with_reducible refine Kd.C_alloc ?_ _) | (with_reducible refine Kd.C_drewN ?_ _) | (with_reducible refine Kd.C_drew ?_))); (case side2 => exact HC0_1.out); (case side3 => repeat (first | exact (Kd.R_reads' HO105.out).2.2 | (with_reducible refine Kd.C_alloc ?_ _) | (with_reducible refine Kd.C_drewN ?_ _) | (with_reducible refine Kd.C_drew ?_))); (case side4 => rw [show y107.length = t103.length from (Kd.R_reads' HO105.out).1.symm]; exact (Kd.R_reads' HO105.out).2.1); rintro e w22 ⟨v109, v112, rfl, ho0, ho1, hb⟩; refine ⟨_, rfl, ?_⟩; have n0_ := Aside0.mk (Kd.R_mono (Kd.R_told (Kd.R_told (Kd.R_old zz20 hb) (Kd.R_base ho0)) (Kd.R_base ho1)) (fun _ h_ => h_.1)); have n1_ := Aside0.mk (Kd.R_lower (Kd.R_new' ho0 (Kd.R_lt zz20)) (below_size zz0)); have n2_ := Aside0.mk (Kd.R_lower (Kd.R_new' ho1 (Kd.R_lt zz20)) (below_size zz0)); have n3_ := Aside0.mk (blk_below (g := gb101) (o := .cells #[.int .i64 a0_0, .slice A0_1 l0_1.length c0_1] 38 (0, 0)) zz2 hb); have n4_ := Aside0.mk (below_step zz0 hb); clear HO105; clear BK101; clear HB; have HO105 := n0_; have HO110 := n1_; have HO113 := n2_; have BK101 := n3_; have HB := n4_; clear n0_ n1_ n2_ n3_ n4_; (try clear hb); (try clear hb2); (try clear hk); (try clear hi); (try clear ho0); (try clear ho1); obtain ⟨Ao23, co23, eo23⟩ := Kd.R_slice HO113.out; subst eo23))); (go_loopg [35] k (fun kq v35 w' => ∃ (x35_1 : Int), v35 = .int .i64 x35_1 ∧ Aside0 (impl_IsRecurrent.l0 kq l1 a2 t108 t111 (t111.length : Int) x35_1 = some r) ∧ Aside0 (kq ≤ k) ∧ Aside0 (Kd.R (Kd.int .i64) 3 w' w.heap.size (fun k_ => some k_ ≠ ((.slice Ao23 t111.length co23) : Value).ownBlock) v109 t108) ∧ Aside0 (Kd.R (Kd.int .i64) 3 w' w.heap.size (fun k_ => some k_ ≠ (v109 : Value).ownBlock) (.slice Ao23 t111.length co23) t111) ∧ Aside0 (w'.heap[gb101]? = some (.cells #[.int .i64 a0_0, (.slice A0_1 l0_1.length c0_1)] 38 (0, 0))) ∧ Aside0 (Below w.heap.size w w'))); case atStart => exact ⟨(0), zz6, H', ⟨Nat.le_refl _⟩, ⟨by (with_reducible repeat (first | apply Kd.R_alloc | apply Kd.R_drewN | apply Kd.R_drew)); exact Kd.R_mono HO110.out (fun _ hk => hk.1)⟩, ⟨by (with_reducible repeat (first | apply Kd.R_alloc | apply Kd.R_drewN | apply Kd.R_drew)); exact Kd.R_mono HO113.out (fun _ hk => hk.1)⟩, ⟨by (with_reducible repeat (first | refine blk_drewN ?_ _ | refine blk_drew ?_ | refine blk_alloc ?_ _)); exact BK101.out⟩, ⟨by repeat (first | (with_reducible first | exact HB.out | apply below_alloc | apply pw_below_drewN | apply below_drew1 | refine below_set ?_ GE101.out) | exact HB.out)⟩⟩
  case round =>
    clear H'; (try clear c1); (try clear p1); (try clear q1); (try clear hx1); (try clear p2); (try clear c5); (try clear c7); (try clear c8); (try clear c8b0); (try clear c9); (try clear c9b0); (try clear p10); (try clear q10); (try clear hx10); (try clear hf10); (try clear c12); (try clear c13); (try clear c14); (try clear c15); (try clear hcz13_0); (try clear hcz13_1); (try clear hcz16_0); (try clear hcz16_1); (try clear hcz21_0); (try clear hcz21_1); (try clear hfz13_0); (try clear hfz13_1); (try clear hfz16_0); (try clear hfz16_1); (try clear hfz21_0); (try clear hfz21_1); (try clear hx10_0); (try clear p10); (try clear q10); obtain ⟨x35_1, rfl, HA, HK1, HO_8, HO_33, BK101, HB⟩ := hrel
    cases gk with
    | zero => exact absurd HA.out (by simp [impl_IsRecurrent.l0])
    | succ k1 =>
      have H := HA.out; clear HA; simp only [impl_IsRecurrent.l0] at H; by_cases c24 : x35_1 < (t111.length : Int); rotate_left
      · rw [if_neg c24] at H; have c24b0 : decide (x35_1 < (t111.length : Int)) = false := decide_eq_false c24; clear c24; replace H := Option.bind_eq_some_iff.mp H; obtain ⟨t115, A290, H⟩ := H; replace H : (some t115) = some r := H; have A29 := Aside0.mk A290; clear A290; obtain rfl := Option.some.inj H; obtain ⟨Ao30, co30, eo30⟩ := Kd.R_slice HO_8.out; subst eo30; (go_wp2_with (first | ((with_reducible refine gate_callee (f := 154) rfl ?_); refine goesL_ (some 50) rfl rfl Try.func154 (by kernel_rfl) rfl #[.slice Ao30 t108.length co30, .slice A1 l1.length c1] rfl zz4 ?_; (with_reducible refine (impl_SameDivisor.calls k1 _ _ t108 _ _ l1 t115 _ ?side1 ?side2 ?side3 ?side4 A29.out).mono ?_); (case side1 => repeat (first | exact (Kd.R_reads' HO_8.out).2.2 | (with_reducible refine Kd.C_alloc ?_ _) | (with_reducible refine Kd.C_drewN ?_ _) | (with_reducible refine Kd.C_drew ?_))); (case side2 => exact (Kd.R_reads' HO_8.out).2.1); (case side3 => repeat (first | exact (Kd.C_below HR1.out HB.out) | (with_reducible refine Kd.C_alloc ?_ _) | (with_reducible refine Kd.C_drewN ?_ _) | (with_reducible refine Kd.C_drew ?_))); (case side4 => exact HC1.out); rintro e w' ⟨rfl, ⟨nd, rfl⟩⟩; refine ⟨_, rfl, ?_⟩))); go_ret; exact ⟨by first | rfl | (simp [errW_none, errW_some] <;> rfl) | (simp [*, errW_none, errW_some] <;> rfl), by repeat (first | (with_reducible first | exact HB.out | apply below_alloc | apply pw_below_drewN | apply below_drew1 | refine below_set ?_ GE101.out) | exact HB.out)⟩
      rw [if_pos c24] at H; have c24b0 : decide (x35_1 < (t111.length : Int)) = true := decide_eq_true c24; clear c24; by_cases c25 : 0 ≤ x35_1; rotate_left
      · rw [if_neg c25] at H; exact absurd H (by simp)
      rw [if_pos c25] at H; have c25b0 : decide (0 ≤ x35_1) = true := decide_eq_true c25; clear c25; by_cases c26 : x35_1 < (t111.length : Int); rotate_left
      · rw [if_neg c26] at H; exact absurd H (by simp)
      rw [if_pos c26] at H; have c26b0 : decide (x35_1 < (t111.length : Int)) = true := decide_eq_true c26; clear c26; by_cases c27 : x35_1 = a2
      · rw [if_pos c27] at H; have c27b0 : (x35_1 == a2) = true := beq_iff_eq.mpr c27; have c27b1 : (x35_1 != a2) = false := bne_eq_false_iff_eq.mpr c27; clear c27; have H' := Aside0.mk H; clear H; have p114 : 0 ≤ (x35_1 : Int) := of_decide_eq_true zz3; have q114 : x35_1 < (t111.length : Int) := of_decide_eq_true zz3; obtain ⟨ad114, e114, hx114_0⟩ := Kd.at_int (Kd.R_reads' HO_33.out).2.2 x35_1 p114 q114; cases e114; replace p114 := eq_true p114; replace q114 := eq_true q114; go_wp2; go_roundg k1; (case measure => have := HK1.out; omega); case rel => exact ⟨(wrap64 (x35_1 + 1)), zz6, H', ⟨by have := HK1.out; omega⟩, ⟨by (with_reducible repeat (first | apply Kd.R_alloc | apply Kd.R_drewN | apply Kd.R_drew)); exact HO_8.out⟩, ⟨by (with_reducible repeat (first | apply Kd.R_alloc | apply Kd.R_drewN | apply Kd.R_drew)); exact HO_33.out⟩, ⟨by (with_reducible repeat (first | refine blk_drewN ?_ _ | refine blk_drew ?_ | refine blk_alloc ?_ _)); exact BK101.out⟩, ⟨by repeat (first | (with_reducible first | exact HB.out | apply below_alloc | apply pw_below_drewN | apply below_drew1 | refine below_set ?_ GE101.out) | exact HB.out)⟩⟩
      rw [if_neg c27] at H; have c27b0 : (x35_1 == a2) = false := beq_eq_false_iff_ne.mpr c27; have c27b1 : (x35_1 != a2) = true := bne_iff_ne.mpr c27; by_cases c28 : (rd t111 x35_1) = 1; rotate_left
      · rw [if_neg c28] at H; have c28b0 : ((rd t111 x35_1) == 1) = false := beq_eq_false_iff_ne.mpr c28; have c28b1 : ((rd t111 x35_1) != 1) = true := bne_iff_ne.mpr c28; obtain rfl := Option.some.inj H; have p114 : 0 ≤ (x35_1 : Int) := of_decide_eq_true zz3; have q114 : x35_1 < (t111.length : Int) := of_decide_eq_true zz3; obtain ⟨ad114, e114, hx114_0⟩ := Kd.at_int (Kd.R_reads' HO_33.out).2.2 x35_1 p114 q114; cases e114; replace p114 := eq_true p114; replace q114 := eq_true q114; go_wp2; go_ret; exact ⟨by first | rfl | (simp [errW_none, errW_some] <;> rfl) | (simp [*, errW_none, errW_some] <;> rfl), by repeat (first | (with_reducible first | exact HB.out | apply below_alloc | apply pw_below_drewN | apply below_drew1 | refine below_set ?_ GE101.out) | exact HB.out)⟩
      rw [if_pos c28] at H; have c28b0 : ((rd t111 x35_1) == 1) = true := beq_iff_eq.mpr c28; have c28b1 : ((rd t111 x35_1) != 1) = false := bne_eq_false_iff_eq.mpr c28; clear c28; have H' := Aside0.mk H; clear H; have p114 : 0 ≤ (x35_1 : Int) := of_decide_eq_true zz3; have q114 : x35_1 < (t111.length : Int) := of_decide_eq_true zz3; obtain ⟨ad114, e114, hx114_0⟩ := Kd.at_int (Kd.R_reads' HO_33.out).2.2 x35_1 p114 q114; cases e114; replace p114 := eq_true p114; replace q114 := eq_true q114; go_wp2; go_roundg k1; (case measure => have := HK1.out; omega); case rel => exact ⟨(wrap64 (x35_1 + 1)), zz6, H', ⟨by have := HK1.out; omega⟩, ⟨by (with_reducible repeat (first | apply Kd.R_alloc | apply Kd.R_drewN | apply Kd.R_drew)); exact HO_8.out⟩, ⟨by (with_reducible repeat (first | apply Kd.R_alloc | apply Kd.R_drewN | apply Kd.R_drew)); exact HO_33.out⟩, ⟨by (with_reducible repeat (first | refine blk_drewN ?_ _ | refine blk_drew ?_ | refine blk_alloc ?_ _)); exact BK101.out⟩, ⟨by repeat (first | (with_reducible first | exact HB.out | apply below_alloc | apply pw_below_drewN | apply below_drew1 | refine below_set ?_ GE101.out) | exact HB.out)⟩⟩
end Go.Proofs.Ytjecgolakaiddaa.P
end

section
namespace Go.Proofs.Ytjecgolakaiddaa.P
open Go.RowKit Go.Proofs.YtjecgolakaiddaaW.PrintWords Go.Proofs.YtjecgolakaiddaaW.PrintLast Go.Proofs.YtjecgolakaiddaaW.PrintMore
attribute [local go_sem] max2_int min2_int max_two min_two max_three min_three max_four min_four
set_option linter.unusedVariables false
set_option linter.unusedSimpArgs false
def impl_LevelOf.f (k : Nat) (a0_0 : Int) (l0_1 : List (S70)) (l1 : List Int) (a2 : Int) : Option (Int × Bool) := (impl_IsRecurrent.f k a0_0 l0_1 l1 a2).bind fun t102 => (if t102 = true then ((impl_sumOf.f k l1).bind fun t103 => ((impl_Valence.f k a0_0 l0_1 a2).bind fun t104 => (some (wrap64 ((wrap64 (t103 + t104)) - (l0_1.length : Int)), true)))) else (some (0, false)))
theorem impl_LevelOf.mono : ∀ a0 a1 a2 a3 k, LeO (impl_LevelOf.f k a0 a1 a2 a3) (impl_LevelOf.f (k + 1) a0 a1 a2 a3) := by
  intro a0 a1 a2 a3 k; unfold impl_LevelOf.f
  repeat' first
      | (with_reducible exact impl_IsRecurrent.mono _ _ _ _ _)
      | (with_reducible exact impl_Valence.mono _ _ _ _)
      | (with_reducible exact impl_sumOf.mono _ _)
      | (with_reducible exact LeO.refl _)
      | (with_reducible exact LeO.none _)
      | (with_reducible refine LeO.ite ?_ ?_)
      | (with_reducible refine LeO.bind ?_ (fun _ => ?_))
      | exact impl_IsRecurrent.mono _ _ _ _ _
      | exact impl_Valence.mono _ _ _ _
      | exact impl_sumOf.mono _ _
      | exact LeO.none _
      | refine LeO.ite ?_ ?_
      | refine LeO.bind ?_ (fun _ => ?_)
def impl_LevelOf.T3 : Bool × List (List Nat × List Nat) := (true, [([], []), ([0], [0]), ([], []), ([], []), ([2, 3, 1], [2, 3]), ([1, 4], [1, 4]), ([], []), ([6], [6]), ([7], [7]), ([5, 8], [5, 8]), ([9, 4, 0, 1, 2, 3, 4, 5, 6, 7, 8, 9], [9]), ([10, 0, 1, 2, 3, 4, 5, 6, 7, 8, 9, 10], [])])
def impl_LevelOf.B3 : List Nat := [0, 1, 0, 0, 15, 31, 0, 64, 192, 511, 1023, 2047]
theorem impl_LevelOf.tab3 : rtab .any (opsOf Try.f83 3) = impl_LevelOf.T3 := by kernel_rfl
theorem impl_LevelOf.bits3 : waitsOk impl_LevelOf.T3.2 impl_LevelOf.B3 = true := by kernel_rfl
set_option maxHeartbeats 8000000 in
set_option maxRecDepth 100000 in
theorem impl_LevelOf.calls (k : Nat) (a0_0 : Int) (A0_1 : Option Addr) (c0_1 : Nat) (l0_1 : List (S70)) (A1 : Option Addr) (c1 : Nat) (l1 : List Int) (a2 : Int) (r1 : Int) (r2 : Bool) (w : World) (hr0_1 : Kd.C k70 w A0_1 l0_1.length l0_1) (hc0_1 : l0_1.length ≤ c0_1) (hr1 : Kd.C (Kd.int .i64) w A1 l1.length l1) (hc1 : l1.length ≤ c1) (h : impl_LevelOf.f k a0_0 l0_1 l1 a2 = some (r1, r2)) :
    Calls Try.prog 83 #[.agg #[.int .i64 a0_0, .slice A0_1 l0_1.length c0_1], .slice A1 l1.length c1, .int .i64 a2] w fun e w' => e = .returned (.tuple #[.int .i64 r1, .bool r2]) ∧ Below w.heap.size w w' := by
  have hu38 := Try.underlying38; have HR0_1 := Aside0.mk hr0_1; have HC0_1 := Aside0.mk hc0_1; clear hr0_1 hc0_1; have HR1 := Aside0.mk hr1; have HC1 := Aside0.mk hc1; clear hr1 hc1; have HB := Aside0.mk (Below.refl w.heap.size w); have H : ((impl_IsRecurrent.f k a0_0 l0_1 l1 a2).bind fun t102 => (if t102 = true then ((impl_sumOf.f k l1).bind fun t103 => ((impl_Valence.f k a0_0 l0_1 a2).bind fun t104 => (some (wrap64 ((wrap64 (t103 + t104)) - (l0_1.length : Int)), true)))) else (some (0, false)))) = some (r1, r2) := h; clear h; replace H := Option.bind_eq_some_iff.mp H; obtain ⟨t102, A40, H⟩ := H; replace H : (if t102 = true then ((impl_sumOf.f k l1).bind fun t103 => ((impl_Valence.f k a0_0 l0_1 a2).bind fun t104 => (some (wrap64 ((wrap64 (t103 + t104)) - (l0_1.length : Int)), true)))) else (some (0, false))) = some (r1, r2) := H; have A4 := Aside0.mk A40; clear A40; by_cases c5 : t102 = true; rotate_left
  · replace c5 := Bool.eq_false_iff.mpr c5; subst c5; (have H1 : (some (0, false)) = some (r1, r2) := by rw [if_neg (show ¬ (false = true) by decide)] at H; exact H); clear H; have H := H1; clear H1; simp only [Option.some.injEq, Prod.mk.injEq] at H; obtain ⟨rfl, rfl⟩ := H; go_enter Try.func83, Try.ntmps83; (go_wp2_with (first | ((with_reducible refine gate_dst (N := 3) rfl ?_); refine box_event ?hg (N := 3) ?hd (cs := #[.int .i64 a0_0, .slice A0_1 l0_1.length c0_1]) (t := 38) ?hr ?_; (case hd => rfl); (case hg => rfl); (case hr => first | (go_simp; done) | (go_simp; rfl)); intro gb101 hg w13 hbox hb; have n0_ := Aside0.mk (below_step zz1 hb); have n1_ := Aside0.mk (hbox); have n2_ := Aside0.mk ((zz7 : w.heap.size ≤ gb101)); have n3_ := Aside0.mk ((zz7 : w.heap.size ≤ gb101)); clear HB; have HB := n0_; have BK101 := n1_; have GW101 := n2_; have GE101 := n3_; clear n0_ n1_ n2_ n3_; clear hb hbox hg; have hcz14_0 : w13.cell? ⟨gb101, 0, none⟩ = some (.int .i64 a0_0) := (blk_cell BK101.out 0).trans rfl; have hcz14_1 : w13.cell? ⟨gb101, 1, none⟩ = some (.slice A0_1 l0_1.length c0_1) := (blk_cell BK101.out 1).trans rfl; have hfz14_0 := blk_frozen BK101.out 0; have hfz14_1 := blk_frozen BK101.out 1) | ((with_reducible refine gate_callee (f := 79) rfl ?_); refine goesL_ (some 11) rfl rfl Try.func79 (by kernel_rfl) rfl #[.agg #[.int .i64 a0_0, .slice A0_1 l0_1.length c0_1], .slice A1 l1.length c1, .int .i64 a2] rfl zz4 ?_; (with_reducible refine (impl_IsRecurrent.calls k a0_0 _ _ l0_1 _ _ l1 a2 false _ ?side1 ?side2 ?side3 ?side4 A4.out).mono ?_); (case side1 => repeat (first | exact (Kd.C_below HR0_1.out HB.out) | (with_reducible refine Kd.C_alloc ?_ _) | (with_reducible refine Kd.C_drewN ?_ _) | (with_reducible refine Kd.C_drew ?_))); (case side2 => exact HC0_1.out); (case side3 => repeat (first | exact (Kd.C_below HR1.out HB.out) | (with_reducible refine Kd.C_alloc ?_ _) | (with_reducible refine Kd.C_drewN ?_ _) | (with_reducible refine Kd.C_drew ?_))); (case side4 => exact HC1.out); rintro e w15 ⟨rfl, hb⟩; refine ⟨_, rfl, ?_⟩; have n0_ := Aside0.mk (blk_below (g := gb101) (o := .cells #[.int .i64 a0_0, .slice A0_1 l0_1.length c0_1] 38 (0, 0)) zz2 hb); have n1_ := Aside0.mk (below_step zz0 hb); clear BK101; clear HB; have BK101 := n0_; have HB := n1_; clear n0_ n1_; (try clear hb); (try clear hb2); (try clear hk); (try clear hi)))); (go_ret2); exact ⟨by first | rfl | (simp [errW_none, errW_some] <;> rfl) | (simp [*, errW_none, errW_some] <;> rfl), by repeat (first | (with_reducible first | exact HB.out | apply below_alloc | apply pw_below_drewN | apply below_drew1 | refine below_set ?_ GE101.out) | exact HB.out)⟩
  subst c5; (have H1 : ((impl_sumOf.f k l1).bind fun t103 => ((impl_Valence.f k a0_0 l0_1 a2).bind fun t104 => (some (wrap64 ((wrap64 (t103 + t104)) - (l0_1.length : Int)), true)))) = some (r1, r2) := by rw [if_pos rfl] at H; exact H); clear H; have H := H1; clear H1; replace H := Option.bind_eq_some_iff.mp H; obtain ⟨t103, A60, H⟩ := H; replace H : ((impl_Valence.f k a0_0 l0_1 a2).bind fun t104 => (some (wrap64 ((wrap64 (t103 + t104)) - (l0_1.length : Int)), true))) = some (r1, r2) := H; have A6 := Aside0.mk A60; clear A60; replace H := Option.bind_eq_some_iff.mp H; obtain ⟨t104, A70, H⟩ := H; replace H : (some (wrap64 ((wrap64 (t103 + t104)) - (l0_1.length : Int)), true)) = some (r1, r2) := H; have A7 := Aside0.mk A70; clear A70; simp only [Option.some.injEq, Prod.mk.injEq] at H; obtain ⟨rfl, rfl⟩ := H; go_enter Try.func83, Try.ntmps83; (try go_wp2_with (first | ((with_reducible refine gate_dst (N := 3) rfl ?_); refine box_event ?hg (N := 3) ?hd (cs := #[.int .i64 a0_0, .slice A0_1 l0_1.length c0_1]) (t := 38) ?hr ?_; (case hd => rfl); (case hg => rfl); (case hr => first | (go_simp; done) | (go_simp; rfl)); intro gb101 hg w8 hbox hb; have n0_ := Aside0.mk (below_step zz1 hb); have n1_ := Aside0.mk (hbox); have n2_ := Aside0.mk ((zz7 : w.heap.size ≤ gb101)); have n3_ := Aside0.mk ((zz7 : w.heap.size ≤ gb101)); clear HB; have HB := n0_; have BK101 := n1_; have GW101 := n2_; have GE101 := n3_; clear n0_ n1_ n2_ n3_; clear hb hbox hg; have hcz9_0 : w8.cell? ⟨gb101, 0, none⟩ = some (.int .i64 a0_0) := (blk_cell BK101.out 0).trans rfl; have hcz9_1 : w8.cell? ⟨gb101, 1, none⟩ = some (.slice A0_1 l0_1.length c0_1) := (blk_cell BK101.out 1).trans rfl; have hfz9_0 := blk_frozen BK101.out 0; have hfz9_1 := blk_frozen BK101.out 1) | ((with_reducible refine gate_callee (f := 79) rfl ?_); refine goesL_ (some 11) rfl rfl Try.func79 (by kernel_rfl) rfl #[.agg #[.int .i64 a0_0, .slice A0_1 l0_1.length c0_1], .slice A1 l1.length c1, .int .i64 a2] rfl zz4 ?_; (with_reducible refine (impl_IsRecurrent.calls k a0_0 _ _ l0_1 _ _ l1 a2 true _ ?side1 ?side2 ?side3 ?side4 A4.out).mono ?_); (case side1 => repeat (first | exact (Kd.C_below HR0_1.out HB.out) | (with_reducible refine Kd.C_alloc ?_ _) | (with_reducible refine Kd.C_drewN ?_ _) | (with_reducible refine Kd.C_drew ?_))); (case side2 => exact HC0_1.out); (case side3 => repeat (first | exact (Kd.C_below HR1.out HB.out) | (with_reducible refine Kd.C_alloc ?_ _) | (with_reducible refine Kd.C_drewN ?_ _) | (with_reducible refine Kd.C_drew ?_))); (case side4 => exact HC1.out); rintro e w10 ⟨rfl, hb⟩; refine ⟨_, rfl, ?_⟩; have n0_ := Aside0.mk (blk_below (g := gb101) (o := .cells #[.int .i64 a0_0, .slice A0_1 l0_1.length c0_1] 38 (0, 0)) zz2 hb); have n1_ := Aside0.mk (below_step zz0 hb); clear BK101; clear HB; have BK101 := n0_; have HB := n1_; clear n0_ n1_; (try clear hb); (try clear hb2); (try clear hk); (try clear hi)))); have n0_ := Aside0.mk (blk_drew BK101.out); have n1_ := Aside0.mk (below_drew1 HB.out); clear BK101; clear HB; have BK101 := n0_; have HB := n1_; clear n0_ n1_; refine start_ (n := 12) (S := fun w' => w'.cell? ⟨gb101, 0, none⟩ = some (.int .i64 a0_0) ∧ w'.cell? ⟨gb101, 1, none⟩ = some (.slice A0_1 l0_1.length c0_1)) (ds := []) #[false, false, false, false, false, false, false, false, false, false, false, false] (by kernel_rfl) rfl rfl ⟨(blk_cell BK101.out 0).trans rfl, (blk_cell BK101.out 1).trans rfl⟩ (fun hHeld => ?_); refine with_tabW impl_LevelOf.tab3 impl_LevelOf.bits3 (fun HT_ HW_ => ?_); generalize w10.drew = w11 at BK101 HB hHeld ⊢; refine pure_ (i := 0) (N := some 13) (v := ?_) (a' := ?_) #[true, false, false, false, false, false, false, false, false, false, false, false] rfl rfl (any_of HT_.out (by kernel_rfl)) (fun _ _ _ h => h) (Or.inl ⟨by rfl, ?_⟩) ?_ ?_; rotate_left
  · intro w'; exact zzT
  rotate_left
  · exact zzS
  refine pure_ (i := 3) (N := some 16) (v := ?_) (a' := ?_) #[true, false, false, true, false, false, false, false, false, false, false, false] rfl rfl (any_of HT_.out (by kernel_rfl)) (fun _ _ _ h => h) (Or.inl ⟨by rfl, ?_⟩) ?_ ?_; rotate_left
  · intro w'; exact zzT
  rotate_left
  · exact zzS
  refine pure_ (i := 6) (N := some 19) (v := ?_) (a' := ?_) #[true, false, false, true, false, false, true, false, false, false, false, false] rfl rfl (any_of HT_.out (by kernel_rfl)) (fun _ _ _ h => h) (Or.inl ⟨by rfl, ?_⟩) ?_ ?_; rotate_left
  · intro w'; exact zzT
  rotate_left
  · exact zzS
  refine take_ (i := 2) (N := some 15) (v := ?_) (a' := ?_) #[true, false, true, true, false, false, true, false, false, false, false, false] rfl rfl (take_ofW HT_.out HW_.out (by kernel_rfl)) (fun _ _ _ h => h) (Or.inl ⟨by rfl, ?_⟩) hHeld ?_ ?_; rotate_left
  · rintro w' ⟨s0, s1⟩; exact zzT
  rotate_left
  · exact zzS
  refine take_ (i := 7) (N := some 20) (v := ?_) (a' := ?_) #[true, false, true, true, false, false, true, true, false, false, false, false] rfl rfl (take_ofW HT_.out HW_.out (by kernel_rfl)) (fun _ _ _ h => h) (Or.inl ⟨by rfl, ?_⟩) hHeld ?_ ?_; rotate_left
  · rintro w' ⟨s0, s1⟩; exact zzT
  rotate_left
  · exact zzS
  refine pure_ (i := 8) (N := some 21) (v := ?_) (a' := ?_) #[true, false, true, true, false, false, true, true, true, false, false, false] rfl rfl (any_of HT_.out (by kernel_rfl)) (fun _ _ _ h => h) (Or.inl ⟨by rfl, ?_⟩) ?_ ?_; rotate_left
  · intro w'; exact zzT
  rotate_left
  · exact zzS
  refine one_ (i := 1) (N := some 14) #[true, true, true, true, false, false, true, true, true, false, false, false] rfl rfl (one_of HT_.out (by kernel_rfl)) (by decide) (fun K hK => ?_); refine goes_ Try.func141 (by kernel_rfl) rfl #[.slice A1 l1.length c1] (by rfl) rfl rfl zz4 ?_; (with_reducible refine (impl_sumOf.calls k _ _ l1 t103 _ ?side1 ?side2 A6.out).mono ?_); (case side1 => repeat (first | exact (Kd.C_below HR1.out HB.out) | (with_reducible refine Kd.C_alloc ?_ _) | (with_reducible refine Kd.C_drewN ?_ _) | (with_reducible refine Kd.C_drew ?_))); (case side2 => exact HC1.out); rintro e w' ⟨rfl, ⟨nd, rfl⟩⟩; refine ⟨_, rfl, ?_⟩; refine hK.out _ _ ⟨(blk_cell BK101.out 0).trans rfl, (blk_cell BK101.out 1).trans rfl⟩ (fun hHeld => ?_); clear hK K; refine norm_ (a' := ?_) ?_ ?_; rotate_left
  · show Act.put _ (some 14) _ = _; exact zzS
  refine one_ (i := 4) (N := some 17) #[true, true, true, true, true, false, true, true, true, false, false, false] rfl rfl (one_of HT_.out (by kernel_rfl)) (by decide) (fun K hK => ?_); refine goes_ Try.func115 (by kernel_rfl) rfl #[.agg #[.int .i64 a0_0, .slice A0_1 l0_1.length c0_1], .int .i64 a2] (by rfl) rfl rfl zz4 ?_; (with_reducible refine (impl_Valence.calls k a0_0 _ _ l0_1 a2 t104 _ ?side1 ?side2 A7.out).mono ?_); (case side1 => repeat (first | exact (Kd.C_below HR0_1.out zz0) | (with_reducible refine Kd.C_alloc ?_ _) | (with_reducible refine Kd.C_drewN ?_ _) | (with_reducible refine Kd.C_drew ?_))); (case side2 => exact HC0_1.out); rintro e w12 ⟨rfl, hb⟩; refine ⟨_, rfl, ?_⟩; have n0_ := Aside0.mk (blk_below (g := gb101) (o := .cells #[.int .i64 a0_0, .slice A0_1 l0_1.length c0_1] 38 (0, 0)) zz2 hb); have n1_ := Aside0.mk (below_step zz0 hb); clear BK101; clear HB; have BK101 := n0_; have HB := n1_; clear n0_ n1_; (try clear hb); (try clear hb2); (try clear hk); (try clear hi); refine hK.out _ _ ⟨(blk_cell BK101.out 0).trans rfl, (blk_cell BK101.out 1).trans rfl⟩ (fun hHeld => ?_); clear hK K; refine norm_ (a' := ?_) ?_ ?_; rotate_left
  · show Act.put _ (some 17) _ = _; exact zzS
  refine pure_ (i := 5) (N := some 18) (v := ?_) (a' := ?_) #[true, true, true, true, true, true, true, true, true, false, false, false] rfl rfl (any_of HT_.out (by kernel_rfl)) (fun _ _ _ h => h) (Or.inl ⟨by rfl, ?_⟩) ?_ ?_; rotate_left
  · intro w'; exact zzT
  rotate_left
  · exact zzS
  refine pure_ (i := 9) (N := some 22) (v := ?_) (a' := ?_) #[true, true, true, true, true, true, true, true, true, true, false, false] rfl rfl (any_of HT_.out (by kernel_rfl)) (fun _ _ _ h => h) (Or.inl ⟨by rfl, ?_⟩) ?_ ?_; rotate_left
  · intro w'; exact zzT
  rotate_left
  · exact zzS
  refine pure_ (i := 10) (N := some 6) (v := ?_) (a' := ?_) #[true, true, true, true, true, true, true, true, true, true, true, false] rfl rfl (any_of HT_.out (by kernel_rfl)) (fun _ _ _ h => h) (Or.inl ⟨by rfl, ?_⟩) ?_ ?_; rotate_left
  · intro w'; exact zzT
  rotate_left
  · exact zzS
  refine pure_ (i := 11) (N := some 7) (v := ?_) (a' := ?_) #[true, true, true, true, true, true, true, true, true, true, true, true] rfl rfl (any_of HT_.out (by kernel_rfl)) (fun _ _ _ h => h) (Or.inl ⟨by rfl, ?_⟩) ?_ ?_; rotate_left
  · intro w'; exact zzT
  rotate_left
  · exact zzS
  refine done_ (done_of HT_.out (by kernel_rfl)) ?_; (try go_wp2); (go_ret2); exact ⟨by first | rfl | (simp [errW_none, errW_some] <;> rfl) | (simp [*, errW_none, errW_some] <;> rfl), by repeat (first | (with_reducible first | exact HB.out | apply below_alloc | apply pw_below_drewN | apply below_drew1 | refine below_set ?_ GE101.out) | exact HB.out)⟩
end Go.Proofs.Ytjecgolakaiddaa.P
end

section
namespace Go.Proofs.Ytjecgolakaiddaa.P
open Go.RowKit Go.Proofs.YtjecgolakaiddaaW.PrintWords Go.Proofs.YtjecgolakaiddaaW.PrintLast Go.Proofs.YtjecgolakaiddaaW.PrintMore
attribute [local go_sem] max2_int min2_int max_two min_two max_three min_three max_four min_four
set_option linter.unusedVariables false
set_option linter.unusedSimpArgs false
def laws_FnExactLevelOf.j0 : Nat → List Int → List Int → Bool → Int → List (S96) → Int → List (S70) → Option (Bool)
  | 0, _, _, _, _, _, _, _ => none
  | k + 1, x1, x11, x49, x102000, x102001, x117000, x117001 => if x49 = true then (none) else ((laws_toGraph.f k x102000 x102001).bind fun bt122 => ((laws_eqGraph.f k x117000 x117001 bt122.1 bt122.2).bind fun t126 => (if t126 = true then ((laws_toIntS.f k x1).bind fun t127 => ((laws_eqIntS.f k x11 t127).bind fun t130 => (if t130 = true then (some true) else (none)))) else (none))))
def laws_FnExactLevelOf.f (k : Nat) (a0_0 : Int) (l0_1 : List (S96)) (l1 : List Int) (a2 : Int) : Option (Bool) := if (l1.length : Int) > 1048576 then (some true) else ((laws_szGraph.f a0_0 l0_1 1048576).bind fun t102 => (if t102 < 0 then (some true) else ((laws_toGraph.f k a0_0 l0_1).bind fun bt103 => ((laws_toIntS.f k l1).bind fun t107 => ((spec_LevelOf.f k bt103.1 bt103.2 t107 a2).bind fun bt110 => ((laws_toGraph.f k a0_0 l0_1).bind fun bt112 => ((laws_toIntS.f k l1).bind fun t117 => ((impl_LevelOf.f k bt112.1 bt112.2 t117 a2).bind fun bt120 => (if bt120.1 = bt110.1 then (laws_FnExactLevelOf.j0 k l1 t117 (bt120.2 != bt110.2) a0_0 l0_1 bt112.1 bt112.2) else (laws_FnExactLevelOf.j0 k l1 t117 true a0_0 l0_1 bt112.1 bt112.2))))))))))
theorem laws_FnExactLevelOf.mono_l : ∀ k, (∀ y0 y1 y2 y3 y4 y5 y6, LeO (laws_FnExactLevelOf.j0 k y0 y1 y2 y3 y4 y5 y6) (laws_FnExactLevelOf.j0 (k + 1) y0 y1 y2 y3 y4 y5 y6))
  | 0 => fun _ _ _ _ _ _ _ r h => by simp [laws_FnExactLevelOf.j0] at h
  | k + 1 => by
    have ih0 := laws_FnExactLevelOf.mono_l k
    · intro y0 y1 y2 y3 y4 y5 y6
      unfold laws_FnExactLevelOf.j0
      repeat' first
      | (with_reducible exact ih0 _ _ _ _ _ _ _)
      | (with_reducible exact impl_LevelOf.mono _ _ _ _ _)
      | (with_reducible exact laws_eqGraph.mono _ _ _ _ _)
      | (with_reducible exact laws_eqIntS.mono _ _ _)
      | (with_reducible exact laws_toGraph.mono _ _ _)
      | (with_reducible exact laws_toIntS.mono _ _)
      | (with_reducible exact spec_LevelOf.mono _ _ _ _ _)
      | (with_reducible exact LeO.refl _)
      | (with_reducible exact LeO.none _)
      | (with_reducible refine LeO.ite ?_ ?_)
      | (with_reducible refine LeO.bind ?_ (fun _ => ?_))
      | exact ih0 _ _ _ _ _ _ _
      | exact impl_LevelOf.mono _ _ _ _ _
      | exact laws_eqGraph.mono _ _ _ _ _
      | exact laws_eqIntS.mono _ _ _
      | exact laws_toGraph.mono _ _ _
      | exact laws_toIntS.mono _ _
      | exact spec_LevelOf.mono _ _ _ _ _
      | exact LeO.none _
      | refine LeO.ite ?_ ?_
      | refine LeO.bind ?_ (fun _ => ?_)
theorem laws_FnExactLevelOf.mono : ∀ a0 a1 a2 a3 k, LeO (laws_FnExactLevelOf.f k a0 a1 a2 a3) (laws_FnExactLevelOf.f (k + 1) a0 a1 a2 a3) := by
  intro a0 a1 a2 a3 k; have ih0 := laws_FnExactLevelOf.mono_l k; unfold laws_FnExactLevelOf.f
  repeat' first
      | (with_reducible exact ih0 _ _ _ _ _ _ _)
      | (with_reducible exact impl_LevelOf.mono _ _ _ _ _)
      | (with_reducible exact laws_eqGraph.mono _ _ _ _ _)
      | (with_reducible exact laws_eqIntS.mono _ _ _)
      | (with_reducible exact laws_toGraph.mono _ _ _)
      | (with_reducible exact laws_toIntS.mono _ _)
      | (with_reducible exact spec_LevelOf.mono _ _ _ _ _)
      | (with_reducible exact LeO.refl _)
      | (with_reducible exact LeO.none _)
      | (with_reducible refine LeO.ite ?_ ?_)
      | (with_reducible refine LeO.bind ?_ (fun _ => ?_))
      | exact ih0 _ _ _ _ _ _ _
      | exact impl_LevelOf.mono _ _ _ _ _
      | exact laws_eqGraph.mono _ _ _ _ _
      | exact laws_eqIntS.mono _ _ _
      | exact laws_toGraph.mono _ _ _
      | exact laws_toIntS.mono _ _
      | exact spec_LevelOf.mono _ _ _ _ _
      | exact LeO.none _
      | refine LeO.ite ?_ ?_
      | refine LeO.bind ?_ (fun _ => ?_)
set_option maxHeartbeats 8000000 in
set_option maxRecDepth 100000 in
theorem laws_FnExactLevelOf.calls (k : Nat) (a0_0 : Int) (A0_1 : Option Addr) (c0_1 : Nat) (l0_1 : List (S96)) (A1 : Option Addr) (c1 : Nat) (l1 : List Int) (a2 : Int) (r : Bool) (w : World) (hr0_1 : Kd.C k96 w A0_1 l0_1.length l0_1) (hc0_1 : l0_1.length ≤ c0_1) (hr1 : Kd.C (Kd.int .i64) w A1 l1.length l1) (hc1 : l1.length ≤ c1) (h : laws_FnExactLevelOf.f k a0_0 l0_1 l1 a2 = some r) :
    Calls Try.prog 22 #[.agg #[.int .i64 a0_0, .slice A0_1 l0_1.length c0_1], .slice A1 l1.length c1, .int .i64 a2] w fun e w' => e = .returned (.bool r) ∧ Below w.heap.size w w' := by
  have hu33 := Try.underlying33; have hu38 := Try.underlying38; have HR0_1 := Aside0.mk hr0_1; have HC0_1 := Aside0.mk hc0_1; clear hr0_1 hc0_1; have HR1 := Aside0.mk hr1; have HC1 := Aside0.mk hc1; clear hr1 hc1; have HB := Aside0.mk (Below.refl w.heap.size w); have H : (if (l1.length : Int) > 1048576 then (some true) else ((laws_szGraph.f a0_0 l0_1 1048576).bind fun t102 => (if t102 < 0 then (some true) else ((laws_toGraph.f k a0_0 l0_1).bind fun bt103 => ((laws_toIntS.f k l1).bind fun t107 => ((spec_LevelOf.f k bt103.1 bt103.2 t107 a2).bind fun bt110 => ((laws_toGraph.f k a0_0 l0_1).bind fun bt112 => ((laws_toIntS.f k l1).bind fun t117 => ((impl_LevelOf.f k bt112.1 bt112.2 t117 a2).bind fun bt120 => (if bt120.1 = bt110.1 then (laws_FnExactLevelOf.j0 k l1 t117 (bt120.2 != bt110.2) a0_0 l0_1 bt112.1 bt112.2) else (laws_FnExactLevelOf.j0 k l1 t117 true a0_0 l0_1 bt112.1 bt112.2))))))))))) = some r := h; clear h; by_cases c4 : (l1.length : Int) > 1048576
  · rw [if_pos c4] at H; have c4b0 : decide (1048576 < (l1.length : Int)) = true := decide_eq_true c4; have c4b1 : decide (1048576 < l1.length) = true := decide_eq_true (by omega); clear c4; obtain rfl := Option.some.inj H; go_enter Try.func22, Try.ntmps22; (go_wp2_with (first | ((with_reducible refine gate_dst (N := 3) rfl ?_); refine box_event ?hg (N := 3) ?hd (cs := #[.int .i64 a0_0, .slice A0_1 l0_1.length c0_1]) (t := 33) ?hr ?_; (case hd => rfl); (case hg => rfl); (case hr => first | (go_simp; done) | (go_simp; rfl)); intro gb101 hg w5 hbox hb; have n0_ := Aside0.mk (below_step zz1 hb); have n1_ := Aside0.mk (hbox); have n2_ := Aside0.mk ((zz7 : w.heap.size ≤ gb101)); have n3_ := Aside0.mk ((zz7 : w.heap.size ≤ gb101)); clear HB; have HB := n0_; have BK101 := n1_; have GW101 := n2_; have GE101 := n3_; clear n0_ n1_ n2_ n3_; clear hb hbox hg))); go_ret; exact ⟨by first | rfl | (simp [errW_none, errW_some] <;> rfl) | (simp [*, errW_none, errW_some] <;> rfl), by repeat (first | (with_reducible first | exact HB.out | apply below_alloc | apply pw_below_drewN | apply below_drew1 | refine below_set ?_ GE101.out) | exact HB.out)⟩
  rw [if_neg c4] at H; have c4b0 : decide (1048576 < (l1.length : Int)) = false := decide_eq_false c4; have c4b1 : decide (1048576 < l1.length) = false := decide_eq_false (by omega); clear c4; replace H := Option.bind_eq_some_iff.mp H; obtain ⟨t102, A60, H⟩ := H; replace H : (if t102 < 0 then (some true) else ((laws_toGraph.f k a0_0 l0_1).bind fun bt103 => ((laws_toIntS.f k l1).bind fun t107 => ((spec_LevelOf.f k bt103.1 bt103.2 t107 a2).bind fun bt110 => ((laws_toGraph.f k a0_0 l0_1).bind fun bt112 => ((laws_toIntS.f k l1).bind fun t117 => ((impl_LevelOf.f k bt112.1 bt112.2 t117 a2).bind fun bt120 => (if bt120.1 = bt110.1 then (laws_FnExactLevelOf.j0 k l1 t117 (bt120.2 != bt110.2) a0_0 l0_1 bt112.1 bt112.2) else (laws_FnExactLevelOf.j0 k l1 t117 true a0_0 l0_1 bt112.1 bt112.2))))))))) = some r := H; have A6 := Aside0.mk A60; clear A60; by_cases c7 : t102 < 0
  · rw [if_pos c7] at H; have c7b0 : decide (t102 < 0) = true := decide_eq_true c7; clear c7; obtain rfl := Option.some.inj H; go_enter Try.func22, Try.ntmps22; (go_wp2_with (first | ((with_reducible refine gate_dst (N := 3) rfl ?_); refine box_event ?hg (N := 3) ?hd (cs := #[.int .i64 a0_0, .slice A0_1 l0_1.length c0_1]) (t := 33) ?hr ?_; (case hd => rfl); (case hg => rfl); (case hr => first | (go_simp; done) | (go_simp; rfl)); intro gb101 hg w8 hbox hb; have n0_ := Aside0.mk (below_step zz1 hb); have n1_ := Aside0.mk (hbox); have n2_ := Aside0.mk ((zz7 : w.heap.size ≤ gb101)); have n3_ := Aside0.mk ((zz7 : w.heap.size ≤ gb101)); clear HB; have HB := n0_; have BK101 := n1_; have GW101 := n2_; have GE101 := n3_; clear n0_ n1_ n2_ n3_; clear hb hbox hg; have hcz9_0 : w8.cell? ⟨gb101, 0, none⟩ = some (.int .i64 a0_0) := (blk_cell BK101.out 0).trans rfl; have hcz9_1 : w8.cell? ⟨gb101, 1, none⟩ = some (.slice A0_1 l0_1.length c0_1) := (blk_cell BK101.out 1).trans rfl; have hfz9_0 := blk_frozen BK101.out 0; have hfz9_1 := blk_frozen BK101.out 1) | ((with_reducible refine gate_callee (f := 41) rfl ?_); refine goesL_ (some 19) rfl rfl Try.func41 (by kernel_rfl) rfl #[.agg #[.int .i64 a0_0, .slice A0_1 l0_1.length c0_1], .int .i64 1048576] rfl zz4 ?_; (with_reducible refine (laws_szGraph.calls a0_0 _ _ l0_1 1048576 t102 _ ?side1 ?side2 A6.out).mono ?_); (case side1 => repeat (first | exact (Kd.C_below HR0_1.out HB.out) | (with_reducible refine Kd.C_alloc ?_ _) | (with_reducible refine Kd.C_drewN ?_ _) | (with_reducible refine Kd.C_drew ?_))); (case side2 => exact HC0_1.out); rintro e w10 ⟨rfl, hb⟩; refine ⟨_, rfl, ?_⟩; have n0_ := Aside0.mk (blk_below (g := gb101) (o := .cells #[.int .i64 a0_0, .slice A0_1 l0_1.length c0_1] 33 (0, 0)) zz2 hb); have n1_ := Aside0.mk (below_step zz0 hb); clear BK101; clear HB; have BK101 := n0_; have HB := n1_; clear n0_ n1_; (try clear hb); (try clear hb2); (try clear hk); (try clear hi)))); go_ret; exact ⟨by first | rfl | (simp [errW_none, errW_some] <;> rfl) | (simp [*, errW_none, errW_some] <;> rfl), by repeat (first | (with_reducible first | exact HB.out | apply below_alloc | apply pw_below_drewN | apply below_drew1 | refine below_set ?_ GE101.out) | exact HB.out)⟩
  rw [if_neg c7] at H; have c7b0 : decide (t102 < 0) = false := decide_eq_false c7; clear c7; replace H := Option.bind_eq_some_iff.mp H; obtain ⟨⟨t103, t104⟩, A110, H⟩ := H; replace H : ((laws_toIntS.f k l1).bind fun t107 => ((spec_LevelOf.f k t103 t104 t107 a2).bind fun bt110 => ((laws_toGraph.f k a0_0 l0_1).bind fun bt112 => ((laws_toIntS.f k l1).bind fun t117 => ((impl_LevelOf.f k bt112.1 bt112.2 t117 a2).bind fun bt120 => (if bt120.1 = bt110.1 then (laws_FnExactLevelOf.j0 k l1 t117 (bt120.2 != bt110.2) a0_0 l0_1 bt112.1 bt112.2) else (laws_FnExactLevelOf.j0 k l1 t117 true a0_0 l0_1 bt112.1 bt112.2))))))) = some r := H; have A11 := Aside0.mk A110; clear A110; replace H := Option.bind_eq_some_iff.mp H; obtain ⟨t107, A120, H⟩ := H; replace H : ((spec_LevelOf.f k t103 t104 t107 a2).bind fun bt110 => ((laws_toGraph.f k a0_0 l0_1).bind fun bt112 => ((laws_toIntS.f k l1).bind fun t117 => ((impl_LevelOf.f k bt112.1 bt112.2 t117 a2).bind fun bt120 => (if bt120.1 = bt110.1 then (laws_FnExactLevelOf.j0 k l1 t117 (bt120.2 != bt110.2) a0_0 l0_1 bt112.1 bt112.2) else (laws_FnExactLevelOf.j0 k l1 t117 true a0_0 l0_1 bt112.1 bt112.2)))))) = some r := H; have A12 := Aside0.mk A120; clear A120; replace H := Option.bind_eq_some_iff.mp H; obtain ⟨⟨t110, t111⟩, A130, H⟩ := H; replace H : ((laws_toGraph.f k a0_0 l0_1).bind fun bt112 => ((laws_toIntS.f k l1).bind fun t117 => ((impl_LevelOf.f k bt112.1 bt112.2 t117 a2).bind fun bt120 => (if bt120.1 = t110 then (laws_FnExactLevelOf.j0 k l1 t117 (bt120.2 != t111) a0_0 l0_1 bt112.1 bt112.2) else (laws_FnExactLevelOf.j0 k l1 t117 true a0_0 l0_1 bt112.1 bt112.2))))) = some r := H; have A13 := Aside0.mk A130; clear A130; replace H := Option.bind_eq_some_iff.mp H; obtain ⟨⟨t112, t113⟩, A140, H⟩ := H; replace H : ((laws_toIntS.f k l1).bind fun t117 => ((impl_LevelOf.f k t112 t113 t117 a2).bind fun bt120 => (if bt120.1 = t110 then (laws_FnExactLevelOf.j0 k l1 t117 (bt120.2 != t111) a0_0 l0_1 t112 t113) else (laws_FnExactLevelOf.j0 k l1 t117 true a0_0 l0_1 t112 t113)))) = some r := H; have A14 := Aside0.mk A140; clear A140; replace H := Option.bind_eq_some_iff.mp H; obtain ⟨t117, A150, H⟩ := H; replace H : ((impl_LevelOf.f k t112 t113 t117 a2).bind fun bt120 => (if bt120.1 = t110 then (laws_FnExactLevelOf.j0 k l1 t117 (bt120.2 != t111) a0_0 l0_1 t112 t113) else (laws_FnExactLevelOf.j0 k l1 t117 true a0_0 l0_1 t112 t113))) = some r := H; have A15 := Aside0.mk A150; clear A150; replace H := Option.bind_eq_some_iff.mp H; obtain ⟨⟨t120, t121⟩, A160, H⟩ := H; replace H : (if t120 = t110 then (laws_FnExactLevelOf.j0 k l1 t117 (t121 != t111) a0_0 l0_1 t112 t113) else (laws_FnExactLevelOf.j0 k l1 t117 true a0_0 l0_1 t112 t113)) = some r := H; have A16 := Aside0.mk A160; clear A160; have HC17 := Aside0.mk H; clear H; go_enter Try.func22, Try.ntmps22; (go_upto_region 11 with (first | ((with_reducible refine gate_dst (N := 3) rfl ?_); refine box_event ?hg (N := 3) ?hd (cs := #[.int .i64 a0_0, .slice A0_1 l0_1.length c0_1]) (t := 33) ?hr ?_; (case hd => rfl); (case hg => rfl); (case hr => first | (go_simp; done) | (go_simp; rfl)); intro gb101 hg w18 hbox hb; have n0_ := Aside0.mk (below_step zz1 hb); have n1_ := Aside0.mk (hbox); have n2_ := Aside0.mk ((zz7 : w.heap.size ≤ gb101)); have n3_ := Aside0.mk ((zz7 : w.heap.size ≤ gb101)); clear HB; have HB := n0_; have BK101 := n1_; have GW101 := n2_; have GE101 := n3_; clear n0_ n1_ n2_ n3_; clear hb hbox hg; have hcz19_0 : w18.cell? ⟨gb101, 0, none⟩ = some (.int .i64 a0_0) := (blk_cell BK101.out 0).trans rfl; have hcz19_1 : w18.cell? ⟨gb101, 1, none⟩ = some (.slice A0_1 l0_1.length c0_1) := (blk_cell BK101.out 1).trans rfl; have hfz19_0 := blk_frozen BK101.out 0; have hfz19_1 := blk_frozen BK101.out 1) | ((with_reducible refine gate_callee (f := 41) rfl ?_); refine goesL_ (some 19) rfl rfl Try.func41 (by kernel_rfl) rfl #[.agg #[.int .i64 a0_0, .slice A0_1 l0_1.length c0_1], .int .i64 1048576] rfl zz4 ?_; (with_reducible refine (laws_szGraph.calls a0_0 _ _ l0_1 1048576 t102 _ ?side1 ?side2 A6.out).mono ?_); (case side1 => repeat (first | exact (Kd.C_below HR0_1.out HB.out) | (with_reducible refine Kd.C_alloc ?_ _) | (with_reducible refine Kd.C_drewN ?_ _) | (with_reducible refine Kd.C_drew ?_))); (case side2 => exact HC0_1.out); rintro e w20 ⟨rfl, hb⟩; refine ⟨_, rfl, ?_⟩; have n0_ := Aside0.mk (blk_below (g := gb101) (o := .cells #[.int .i64 a0_0, .slice A0_1 l0_1.length c0_1] 33 (0, 0)) zz2 hb); have n1_ := Aside0.mk (below_step zz0 hb); clear BK101; clear HB; have BK101 := n0_; have HB := n1_; clear n0_ n1_; (try clear hb); (try clear hb2); (try clear hk); (try clear hi); have hcz21_0 : w20.cell? ⟨gb101, 0, none⟩ = some (.int .i64 a0_0) := (blk_cell BK101.out 0).trans rfl; have hcz21_1 : w20.cell? ⟨gb101, 1, none⟩ = some (.slice A0_1 l0_1.length c0_1) := (blk_cell BK101.out 1).trans rfl; have hfz21_0 := blk_frozen BK101.out 0; have hfz21_1 := blk_frozen BK101.out 1) | ((with_reducible refine gate_callee (f := 43) rfl ?_); refine goesL_ (some 24) rfl rfl Try.func43 (by kernel_rfl) rfl #[.agg #[.int .i64 a0_0, .slice A0_1 l0_1.length c0_1]] rfl zz4 ?_; (with_reducible refine (laws_toGraph.calls k a0_0 _ _ l0_1 t103 t104 _ ?side1 ?side2 A11.out).mono ?_); (case side1 => repeat (first | exact (Kd.C_below HR0_1.out HB.out) | (with_reducible refine Kd.C_alloc ?_ _) | (with_reducible refine Kd.C_drewN ?_ _) | (with_reducible refine Kd.C_drew ?_))); (case side2 => exact HC0_1.out); rintro e w22 ⟨v105, rfl, ho0, hb⟩; refine ⟨_, rfl, ?_⟩; have n0_ := Aside0.mk (Kd.R_lower ho0 (below_size zz0)); have n1_ := Aside0.mk (blk_below (g := gb101) (o := .cells #[.int .i64 a0_0, .slice A0_1 l0_1.length c0_1] 33 (0, 0)) zz2 hb); have n2_ := Aside0.mk (below_step zz0 hb); clear BK101; clear HB; have HO106 := n0_; have BK101 := n1_; have HB := n2_; clear n0_ n1_ n2_; (try clear hb); (try clear hb2); (try clear hk); (try clear hi); (try clear ho0)) | ((with_reducible refine gate_callee (f := 44) rfl ?_); refine goesL_ (some 26) rfl rfl Try.func44 (by kernel_rfl) rfl #[.slice A1 l1.length c1] rfl zz4 ?_; (with_reducible refine (laws_toIntS.calls k _ _ l1 t107 _ ?side1 ?side2 A12.out).mono ?_); (case side1 => repeat (first | exact (Kd.C_below HR1.out HB.out) | (with_reducible refine Kd.C_alloc ?_ _) | (with_reducible refine Kd.C_drewN ?_ _) | (with_reducible refine Kd.C_drew ?_))); (case side2 => exact HC1.out); rintro e w23 ⟨v108, rfl, ho0, hb⟩; refine ⟨_, rfl, ?_⟩; have n0_ := Aside0.mk (Kd.R_below zz21 hb); have n1_ := Aside0.mk (Kd.R_lower ho0 (below_size zz0)); have n2_ := Aside0.mk (blk_below (g := gb101) (o := .cells #[.int .i64 a0_0, .slice A0_1 l0_1.length c0_1] 33 (0, 0)) zz2 hb); have n3_ := Aside0.mk (below_step zz0 hb); clear HO106; clear BK101; clear HB; have HO106 := n0_; have HO109 := n1_; have BK101 := n2_; have HB := n3_; clear n0_ n1_ n2_ n3_; (try clear hb); (try clear hb2); (try clear hk); (try clear hi); (try clear ho0); obtain ⟨Ao24, co24, eo24⟩ := Kd.R_slice HO106.out; subst eo24; obtain ⟨Ao25, co25, eo25⟩ := Kd.R_slice HO109.out; subst eo25) | ((with_reducible refine gate_callee (f := 82) rfl ?_); refine goesL_ (some 28) rfl rfl Try.func82 (by kernel_rfl) rfl #[.agg #[.int .i64 t103, .slice Ao24 t104.length co24], .slice Ao25 t107.length co25, .int .i64 a2] rfl zz4 ?_; (with_reducible refine (spec_LevelOf.calls k t103 _ _ t104 _ _ t107 a2 t110 t111 _ ?side1 ?side2 ?side3 ?side4 A13.out).mono ?_); (case side1 => repeat (first | exact (Kd.R_reads' HO106.out).2.2 | (with_reducible refine Kd.C_alloc ?_ _) | (with_reducible refine Kd.C_drewN ?_ _) | (with_reducible refine Kd.C_drew ?_))); (case side2 => exact (Kd.R_reads' HO106.out).2.1); (case side3 => repeat (first | exact (Kd.R_reads' HO109.out).2.2 | (with_reducible refine Kd.C_alloc ?_ _) | (with_reducible refine Kd.C_drewN ?_ _) | (with_reducible refine Kd.C_drew ?_))); (case side4 => exact (Kd.R_reads' HO109.out).2.1); rintro e w26 ⟨rfl, hb⟩; refine ⟨_, rfl, ?_⟩; have n0_ := Aside0.mk (Kd.R_below zz21 hb); have n1_ := Aside0.mk (Kd.R_below (by (with_reducible repeat (first | apply Kd.R_alloc | apply Kd.R_drewN | apply Kd.R_drew)); exact HO109.out) hb); have n2_ := Aside0.mk (blk_below (g := gb101) (o := .cells #[.int .i64 a0_0, .slice A0_1 l0_1.length c0_1] 33 (0, 0)) zz2 hb); have n3_ := Aside0.mk (below_step zz0 hb); clear HO106; clear HO109; clear BK101; clear HB; have HO106 := n0_; have HO109 := n1_; have BK101 := n2_; have HB := n3_; clear n0_ n1_ n2_ n3_; (try clear hb); (try clear hb2); (try clear hk); (try clear hi); have hcz27_0 : w26.cell? ⟨gb101, 0, none⟩ = some (.int .i64 a0_0) := (blk_cell BK101.out 0).trans rfl; have hcz27_1 : w26.cell? ⟨gb101, 1, none⟩ = some (.slice A0_1 l0_1.length c0_1) := (blk_cell BK101.out 1).trans rfl; have hfz27_0 := blk_frozen BK101.out 0; have hfz27_1 := blk_frozen BK101.out 1) | ((with_reducible refine gate_callee (f := 43) rfl ?_); refine goesL_ (some 32) rfl rfl Try.func43 (by kernel_rfl) rfl #[.agg #[.int .i64 a0_0, .slice A0_1 l0_1.length c0_1]] rfl zz4 ?_; (with_reducible refine (laws_toGraph.calls k a0_0 _ _ l0_1 t112 t113 _ ?side1 ?side2 A14.out).mono ?_); (case side1 => repeat (first | exact (Kd.C_below HR0_1.out HB.out) | (with_reducible refine Kd.C_alloc ?_ _) | (with_reducible refine Kd.C_drewN ?_ _) | (with_reducible refine Kd.C_drew ?_))); (case side2 => exact HC0_1.out); rintro e w28 ⟨v114, rfl, ho0, hb⟩; refine ⟨_, rfl, ?_⟩; have n0_ := Aside0.mk (Kd.R_elder' zz21 (Kd.R_base ho0) hb); have n1_ := Aside0.mk (Kd.R_below (by (with_reducible repeat (first | apply Kd.R_alloc | apply Kd.R_drewN | apply Kd.R_drew)); exact HO109.out) hb); have n2_ := Aside0.mk (Kd.R_lower (Kd.R_new' ho0 (Kd.R_lt zz21)) (below_size zz0)); have n3_ := Aside0.mk (blk_below (g := gb101) (o := .cells #[.int .i64 a0_0, .slice A0_1 l0_1.length c0_1] 33 (0, 0)) zz2 hb); have n4_ := Aside0.mk (below_step zz0 hb); clear HO106; clear HO109; clear BK101; clear HB; have HO106 := n0_; have HO109 := n1_; have HO115 := n2_; have BK101 := n3_; have HB := n4_; clear n0_ n1_ n2_ n3_ n4_; (try clear hb); (try clear hb2); (try clear hk); (try clear hi); (try clear ho0)) | ((with_reducible refine gate_dst (N := 10) rfl ?_); refine box_event ?hg (N := 10) ?hd (cs := #[.int .i64 0, .slice none 0 0]) (t := 38) ?hr ?_; (case hd => rfl); (case hg => rfl); (case hr => first | (go_simp; done) | (go_simp; rfl)); intro gb116 hg w29 hbox hb; have n0_ := Aside0.mk (Kd.R_below zz21 hb); have n1_ := Aside0.mk (Kd.R_below (by (with_reducible repeat (first | apply Kd.R_alloc | apply Kd.R_drewN | apply Kd.R_drew)); exact HO109.out) hb); have n2_ := Aside0.mk (Kd.R_below (by (with_reducible repeat (first | apply Kd.R_alloc | apply Kd.R_drewN | apply Kd.R_drew)); exact HO115.out) hb); have n3_ := Aside0.mk (blk_below (g := gb101) (o := .cells #[.int .i64 a0_0, .slice A0_1 l0_1.length c0_1] 33 (0, 0)) zz2 hb); have n4_ := Aside0.mk (below_step zz0 hb); have n5_ := Aside0.mk (hbox); have n6_ := Aside0.mk ((zz8 : w.heap.size ≤ gb116)); have n7_ := Aside0.mk ((zz8 : w.heap.size ≤ gb116)); have n8_ := Aside0.mk ((by rw [hg]; exact Nat.ne_of_lt (blk_lt (g := gb101) (o := .cells #[.int .i64 a0_0, .slice A0_1 l0_1.length c0_1] 33 (0, 0)) zz2) : gb101 ≠ gb116)); have n9_ := Aside0.mk ((by rw [hg]; exact Nat.ne_of_gt (blk_lt (g := gb101) (o := .cells #[.int .i64 a0_0, .slice A0_1 l0_1.length c0_1] 33 (0, 0)) zz2) : gb116 ≠ gb101)); clear HO106; clear HO109; clear HO115; clear BK101; clear HB; have HO106 := n0_; have HO109 := n1_; have HO115 := n2_; have BK101 := n3_; have HB := n4_; have BK116 := n5_; have GW116 := n6_; have GE116 := n7_; have NB101_116 := n8_; have NB116_101 := n9_; clear n0_ n1_ n2_ n3_ n4_ n5_ n6_ n7_ n8_ n9_; clear hb hbox hg; have hnb30 := NB116_101.out; have hnc30 := NB101_116.out; have hcz31_0 : w29.cell? ⟨gb116, 0, none⟩ = some (.int .i64 0) := (blk_cell BK116.out 0).trans rfl; have hcz31_1 : w29.cell? ⟨gb116, 1, none⟩ = some (.slice none 0 0) := (blk_cell BK116.out 1).trans rfl; have hfz31_0 := blk_frozen BK116.out 0; have hfz31_1 := blk_frozen BK116.out 1; obtain ⟨Ao32, co32, eo32⟩ := Kd.R_slice HO115.out; subst eo32) | ((with_reducible refine gate_callee (f := 44) rfl ?_); refine goesL_ (some 34) rfl rfl Try.func44 (by kernel_rfl) rfl #[.slice A1 l1.length c1] rfl zz4 ?_; (with_reducible refine (laws_toIntS.calls k _ _ l1 t117 _ ?side1 ?side2 A15.out).mono ?_); (case side1 => exact Kd.C_below HR1.out zz13); (case side2 => exact HC1.out); rintro e w33 ⟨v118, rfl, ho0, hb⟩; refine ⟨_, rfl, ?_⟩; have n0_ := Aside0.mk (Kd.R_below (by (with_reducible repeat (first | apply Kd.R_alloc | apply Kd.R_drewN | apply Kd.R_drew)); exact (Kd.R_mono (Kd.R_far (p := ⟨gb116, 1, none⟩) (Kd.R_far (p := ⟨gb116, 0, none⟩) (Kd.R_types HO106.out BK116.out (by decide)) (fun _ hk => hk.2) (.int .i64 t112)) (fun _ hk => hk.2) (.slice Ao32 t113.length co32)) (fun _ h_ => h_.1))) hb); have n1_ := Aside0.mk (Kd.R_elder' zz32 (Kd.R_base ho0) hb); have n2_ := Aside0.mk (Kd.R_below (by (with_reducible repeat (first | apply Kd.R_alloc | apply Kd.R_drewN | apply Kd.R_drew)); exact (Kd.R_mono (Kd.R_far (p := ⟨gb116, 1, none⟩) (Kd.R_far (p := ⟨gb116, 0, none⟩) (Kd.R_types HO115.out BK116.out (by decide)) (fun _ hk => hk.2) (.int .i64 t112)) (fun _ hk => hk.2) (.slice Ao32 t113.length co32)) (fun _ h_ => h_.1))) hb); have n3_ := Aside0.mk (Kd.R_lower (Kd.R_new' ho0 (Kd.R_lt zz32)) (below_size zz13)); have n4_ := Aside0.mk (blk_below (g := gb101) (o := .cells #[.int .i64 a0_0, .slice A0_1 l0_1.length c0_1] 33 (0, 0)) (by (with_reducible repeat (first | refine blk_drewN ?_ _ | refine blk_drew ?_ | refine blk_alloc ?_ _)); refine blk_far ?_ NB101_116.out _; (with_reducible repeat (first | refine blk_drewN ?_ _ | refine blk_drew ?_ | refine blk_alloc ?_ _)); refine blk_far ?_ NB101_116.out _; (with_reducible repeat (first | refine blk_drewN ?_ _ | refine blk_drew ?_ | refine blk_alloc ?_ _)); exact BK101.out) hb); have n5_ := Aside0.mk (blk_below (g := gb116) (o := .cells #[.int .i64 t112, .slice Ao32 t113.length co32] 38 (0, 0)) (by (with_reducible repeat (first | refine blk_drewN ?_ _ | refine blk_drew ?_ | refine blk_alloc ?_ _)); refine blk_put (cs := #[.int .i64 t112, .slice none 0 0]) ?_ 1 _ rfl; (with_reducible repeat (first | refine blk_drewN ?_ _ | refine blk_drew ?_ | refine blk_alloc ?_ _)); refine blk_put (cs := #[.int .i64 0, .slice none 0 0]) ?_ 0 _ rfl; (with_reducible repeat (first | refine blk_drewN ?_ _ | refine blk_drew ?_ | refine blk_alloc ?_ _)); exact BK116.out) hb); have n6_ := Aside0.mk (below_step zz13 hb); clear HO106; clear HO109; clear HO115; clear BK101; clear BK116; clear HB; have HO106 := n0_; have HO109 := n1_; have HO115 := n2_; have HO119 := n3_; have BK101 := n4_; have BK116 := n5_; have HB := n6_; clear n0_ n1_ n2_ n3_ n4_ n5_ n6_; (try clear hb); (try clear hb2); (try clear hk); (try clear hi); (try clear ho0); have hcz34_0 : w33.cell? ⟨gb116, 0, none⟩ = some (.int .i64 t112) := (blk_cell BK116.out 0).trans rfl; have hcz34_1 : w33.cell? ⟨gb116, 1, none⟩ = some (.slice Ao32 t113.length co32) := (blk_cell BK116.out 1).trans rfl; have hfz34_0 := blk_frozen BK116.out 0; have hfz34_1 := blk_frozen BK116.out 1; obtain ⟨Ao35, co35, eo35⟩ := Kd.R_slice HO119.out; subst eo35) | ((with_reducible refine gate_callee (f := 83) rfl ?_); refine goesL_ (some 39) rfl rfl Try.func83 (by kernel_rfl) rfl #[.agg #[.int .i64 t112, .slice Ao32 t113.length co32], .slice Ao35 t117.length co35, .int .i64 a2] rfl zz4 ?_; (with_reducible refine (impl_LevelOf.calls k t112 _ _ t113 _ _ t117 a2 t120 t121 _ ?side1 ?side2 ?side3 ?side4 A16.out).mono ?_); (case side1 => repeat (first | exact (Kd.R_reads' HO115.out).2.2 | (with_reducible refine Kd.C_alloc ?_ _) | (with_reducible refine Kd.C_drewN ?_ _) | (with_reducible refine Kd.C_drew ?_))); (case side2 => exact (Kd.R_reads' HO115.out).2.1); (case side3 => repeat (first | exact (Kd.R_reads' HO119.out).2.2 | (with_reducible refine Kd.C_alloc ?_ _) | (with_reducible refine Kd.C_drewN ?_ _) | (with_reducible refine Kd.C_drew ?_))); (case side4 => exact (Kd.R_reads' HO119.out).2.1); rintro e w36 ⟨rfl, hb⟩; refine ⟨_, rfl, ?_⟩; have n0_ := Aside0.mk (Kd.R_below zz21 hb); have n1_ := Aside0.mk (Kd.R_below (by (with_reducible repeat (first | apply Kd.R_alloc | apply Kd.R_drewN | apply Kd.R_drew)); exact HO109.out) hb); have n2_ := Aside0.mk (Kd.R_below (by (with_reducible repeat (first | apply Kd.R_alloc | apply Kd.R_drewN | apply Kd.R_drew)); exact HO115.out) hb); have n3_ := Aside0.mk (Kd.R_below (by (with_reducible repeat (first | apply Kd.R_alloc | apply Kd.R_drewN | apply Kd.R_drew)); exact HO119.out) hb); have n4_ := Aside0.mk (blk_below (g := gb101) (o := .cells #[.int .i64 a0_0, .slice A0_1 l0_1.length c0_1] 33 (0, 0)) zz2 hb); have n5_ := Aside0.mk (blk_below (g := gb116) (o := .cells #[.int .i64 t112, .slice Ao32 t113.length co32] 38 (0, 0)) zz31 hb); have n6_ := Aside0.mk (below_step zz13 hb); clear HO106; clear HO109; clear HO115; clear HO119; clear BK101; clear BK116; clear HB; have HO106 := n0_; have HO109 := n1_; have HO115 := n2_; have HO119 := n3_; have BK101 := n4_; have BK116 := n5_; have HB := n6_; clear n0_ n1_ n2_ n3_ n4_ n5_ n6_; (try clear hb); (try clear hb2); (try clear hk); (try clear hi)))); (try simp only [Act.put, List.setIfInBounds_toArray, List.set_cons_zero, List.set_cons_succ]); go_cut [49] (fun v49 wc => ∃ (kq : Nat) (x49_16 : Bool), v49 = .bool x49_16 ∧ Aside0 (laws_FnExactLevelOf.j0 kq l1 t117 x49_16 a0_0 l0_1 t112 t113 = some r) ∧ Aside0 (kq ≤ k) ∧ Aside0 (Kd.R (Kd.int .i64) 3 wc w.heap.size (fun _ => True) (.slice Ao35 t117.length co35) t117) ∧ Aside0 (Kd.R k70 70 wc w.heap.size (fun _ => True) (.slice Ao32 t113.length co32) t113) ∧ Aside0 (wc.heap[gb101]? = some (.cells #[.int .i64 a0_0, (.slice A0_1 l0_1.length c0_1)] 33 (0, 0))) ∧ Aside0 (wc.heap[gb116]? = some (.cells #[.int .i64 t112, (.slice Ao32 t113.length co32)] 38 (0, 0))) ∧ Aside0 (Below w.heap.size w wc))
  case first =>
    have H := HC17.out; clear HC17; by_cases c37 : t120 = t110; rotate_left
    · rw [if_neg c37] at H; have c37b0 : (t120 == t110) = false := beq_eq_false_iff_ne.mpr c37; have c37b1 : (t120 != t110) = true := bne_iff_ne.mpr c37; (first | rw [c37b0] | (simp only [i64_w, i32_w]; rw [c37b0]) | skip); have H' := Aside0.mk H; clear H; go_wp2; (go_meet); case rel => exact ⟨_, (true), zz6, H', ⟨by first | omega | exact Nat.le_refl _⟩, ⟨by (with_reducible repeat (first | apply Kd.R_alloc | apply Kd.R_drewN | apply Kd.R_drew)); exact Kd.R_mono HO119.out (fun _ hk => trivial)⟩, ⟨by (with_reducible repeat (first | apply Kd.R_alloc | apply Kd.R_drewN | apply Kd.R_drew)); exact Kd.R_mono HO115.out (fun _ hk => trivial)⟩, ⟨by (with_reducible repeat (first | refine blk_drewN ?_ _ | refine blk_drew ?_ | refine blk_alloc ?_ _)); exact BK101.out⟩, ⟨by (with_reducible repeat (first | refine blk_drewN ?_ _ | refine blk_drew ?_ | refine blk_alloc ?_ _)); exact BK116.out⟩, ⟨by repeat (first | (with_reducible first | exact HB.out | apply below_alloc | apply pw_below_drewN | apply below_drew1 | refine below_set ?_ GE101.out | refine below_set ?_ GE116.out) | exact HB.out)⟩⟩
    rw [if_pos c37] at H; have c37b0 : (t120 == t110) = true := beq_iff_eq.mpr c37; have c37b1 : (t120 != t110) = false := bne_eq_false_iff_eq.mpr c37; clear c37; (first | rw [c37b0] | (simp only [i64_w, i32_w]; rw [c37b0]) | skip); have H' := Aside0.mk H; clear H; go_wp2; (go_meet); case rel => exact ⟨_, ((t121 != t111)), zz6, H', ⟨by first | omega | exact Nat.le_refl _⟩, ⟨by (with_reducible repeat (first | apply Kd.R_alloc | apply Kd.R_drewN | apply Kd.R_drew)); exact Kd.R_mono HO119.out (fun _ hk => trivial)⟩, ⟨by (with_reducible repeat (first | apply Kd.R_alloc | apply Kd.R_drewN | apply Kd.R_drew)); exact Kd.R_mono HO115.out (fun _ hk => trivial)⟩, ⟨by (with_reducible repeat (first | refine blk_drewN ?_ _ | refine blk_drew ?_ | refine blk_alloc ?_ _)); exact BK101.out⟩, ⟨by (with_reducible repeat (first | refine blk_drewN ?_ _ | refine blk_drew ?_ | refine blk_alloc ?_ _)); exact BK116.out⟩, ⟨by repeat (first | (with_reducible first | exact HB.out | apply below_alloc | apply pw_below_drewN | apply below_drew1 | refine below_set ?_ GE101.out | refine below_set ?_ GE116.out) | exact HB.out)⟩⟩
  case rest =>
    clear HC17; (try clear c1); (try clear c2); (try clear p2); (try clear c3); (try clear c4); (try clear c4b0); (try clear c4b1); (try clear c7); (try clear c7b0); (try clear c8); (try clear c22); (try clear c30); (try clear c37); (try clear c37b0); (try clear c37b1); (try clear hcz19_0); (try clear hcz19_1); (try clear hcz21_0); (try clear hcz21_1); (try clear hcz27_0); (try clear hcz27_1); (try clear hcz31_0); (try clear hcz31_1); (try clear hcz34_0); (try clear hcz34_1); (try clear hcz9_0); (try clear hcz9_1); (try clear hfz19_0); (try clear hfz19_1); (try clear hfz21_0); (try clear hfz21_1); (try clear hfz27_0); (try clear hfz27_1); (try clear hfz31_0); (try clear hfz31_1); (try clear hfz34_0); (try clear hfz34_1); (try clear hfz9_0); (try clear hfz9_1); obtain ⟨kq, x49_16, rfl, HA, HJ16, HO_11, HO_117001, BK101, BK116, HB⟩ := hcut
    cases kq with
    | zero => exact absurd HA.out (by simp [laws_FnExactLevelOf.j0])
    | succ kj16 =>
      have H := HA.out; clear HA; simp only [laws_FnExactLevelOf.j0] at H; by_cases c38 : x49_16 = true
      · subst c38; (have H1 : (none) = some r := by rw [if_pos rfl] at H; exact H); clear H; have H := H1; clear H1; exact absurd H (by simp)
      replace c38 := Bool.eq_false_iff.mpr c38; subst c38; (have H1 : ((laws_toGraph.f kj16 a0_0 l0_1).bind fun bt122 => ((laws_eqGraph.f kj16 t112 t113 bt122.1 bt122.2).bind fun t126 => (if t126 = true then ((laws_toIntS.f kj16 l1).bind fun t127 => ((laws_eqIntS.f kj16 t117 t127).bind fun t130 => (if t130 = true then (some true) else (none)))) else (none)))) = some r := by rw [if_neg (show ¬ (false = true) by decide)] at H; exact H); clear H; have H := H1; clear H1; replace H := Option.bind_eq_some_iff.mp H; obtain ⟨⟨t122, t123⟩, A390, H⟩ := H; replace H : ((laws_eqGraph.f kj16 t112 t113 t122 t123).bind fun t126 => (if t126 = true then ((laws_toIntS.f kj16 l1).bind fun t127 => ((laws_eqIntS.f kj16 t117 t127).bind fun t130 => (if t130 = true then (some true) else (none)))) else (none))) = some r := H; have A39 := Aside0.mk A390; clear A390; replace H := Option.bind_eq_some_iff.mp H; obtain ⟨t126, A400, H⟩ := H; replace H : (if t126 = true then ((laws_toIntS.f kj16 l1).bind fun t127 => ((laws_eqIntS.f kj16 t117 t127).bind fun t130 => (if t130 = true then (some true) else (none)))) else (none)) = some r := H; have A40 := Aside0.mk A400; clear A400; by_cases c41 : t126 = true; rotate_left
      · replace c41 := Bool.eq_false_iff.mpr c41; subst c41; (have H1 : (none) = some r := by rw [if_neg (show ¬ (false = true) by decide)] at H; exact H); clear H; have H := H1; clear H1; exact absurd H (by simp)
      subst c41; (have H1 : ((laws_toIntS.f kj16 l1).bind fun t127 => ((laws_eqIntS.f kj16 t117 t127).bind fun t130 => (if t130 = true then (some true) else (none)))) = some r := by rw [if_pos rfl] at H; exact H); clear H; have H := H1; clear H1; replace H := Option.bind_eq_some_iff.mp H; obtain ⟨t127, A420, H⟩ := H; replace H : ((laws_eqIntS.f kj16 t117 t127).bind fun t130 => (if t130 = true then (some true) else (none))) = some r := H; have A42 := Aside0.mk A420; clear A420; replace H := Option.bind_eq_some_iff.mp H; obtain ⟨t130, A430, H⟩ := H; replace H : (if t130 = true then (some true) else (none)) = some r := H; have A43 := Aside0.mk A430; clear A430; by_cases c44 : t130 = true; rotate_left
      · replace c44 := Bool.eq_false_iff.mpr c44; subst c44; (have H1 : (none) = some r := by rw [if_neg (show ¬ (false = true) by decide)] at H; exact H); clear H; have H := H1; clear H1; exact absurd H (by simp)
      subst c44; (have H1 : (some true) = some r := by rw [if_pos rfl] at H; exact H); clear H; have H := H1; clear H1; obtain rfl := Option.some.inj H; (try go_wp2); have n0_ := Aside0.mk (Kd.R_drew HO_11.out); have n1_ := Aside0.mk (Kd.R_drew HO_117001.out); have n2_ := Aside0.mk (blk_drew BK101.out); have n3_ := Aside0.mk (blk_drew BK116.out); have n4_ := Aside0.mk (below_drew1 HB.out); clear HO_11; clear HO_117001; clear BK101; clear BK116; clear HB; have HO_11 := n0_; have HO_117001 := n1_; have BK101 := n2_; have BK116 := n3_; have HB := n4_; clear n0_ n1_ n2_ n3_ n4_; refine start_ (n := 5) (S := fun w' => w'.cell? ⟨gb116, 0, none⟩ = some (.int .i64 t112) ∧ w'.cell? ⟨gb116, 1, none⟩ = some (.slice Ao32 t113.length co32) ∧ w'.cell? ⟨gb101, 0, none⟩ = some (.int .i64 a0_0) ∧ w'.cell? ⟨gb101, 1, none⟩ = some (.slice A0_1 l0_1.length c0_1)) (ds := []) #[false, false, false, false, false] (by kernel_rfl) rfl rfl ⟨(blk_cell BK116.out 0).trans rfl, (blk_cell BK116.out 1).trans rfl, (blk_cell BK101.out 0).trans rfl, (blk_cell BK101.out 1).trans rfl⟩ (fun hHeld => ?_); generalize wc.drew = w45 at HO_11 HO_117001 BK101 BK116 HB hHeld ⊢; refine take_ (i := 0) (N := some 50) (v := ?_) (a' := ?_) #[true, false, false, false, false] rfl rfl (by kernel_rfl) (fun _ _ _ h => h) (Or.inl ⟨by rfl, ?_⟩) hHeld ?_ ?_; rotate_left
      · rintro w' ⟨s0, s1, s2, s3⟩; exact zzT
      rotate_left
      · exact zzS
      refine take_ (i := 1) (N := some 51) (v := ?_) (a' := ?_) #[true, true, false, false, false] rfl rfl (by kernel_rfl) (fun _ _ _ h => h) (Or.inl ⟨by rfl, ?_⟩) hHeld ?_ ?_; rotate_left
      · rintro w' ⟨s0, s1, s2, s3⟩; exact zzT
      rotate_left
      · exact zzS
      refine one_ (i := 2) (N := some 52) #[true, true, true, false, false] rfl rfl (by kernel_rfl) (by decide) (fun K hK => ?_); refine goes_ Try.func43 (by kernel_rfl) rfl #[.agg #[.int .i64 a0_0, .slice A0_1 l0_1.length c0_1]] (by rfl) rfl rfl zz4 ?_; (with_reducible refine (laws_toGraph.calls kj16 a0_0 _ _ l0_1 t122 t123 _ ?side1 ?side2 A39.out).mono ?_); (case side1 => repeat (first | exact (Kd.C_below HR0_1.out HB.out) | (with_reducible refine Kd.C_alloc ?_ _) | (with_reducible refine Kd.C_drewN ?_ _) | (with_reducible refine Kd.C_drew ?_))); (case side2 => exact HC0_1.out); rintro e w46 ⟨v124, rfl, ho0, hb⟩; refine ⟨_, rfl, ?_⟩; have n0_ := Aside0.mk (Kd.R_below (by (with_reducible repeat (first | apply Kd.R_alloc | apply Kd.R_drewN | apply Kd.R_drew)); exact HO_11.out) hb); have n1_ := Aside0.mk (Kd.R_elder' zz33 (Kd.R_base ho0) hb); have n2_ := Aside0.mk (Kd.R_lower (Kd.R_new' ho0 (Kd.R_lt zz33)) (below_size zz13)); have n3_ := Aside0.mk (blk_below (g := gb101) (o := .cells #[.int .i64 a0_0, .slice A0_1 l0_1.length c0_1] 33 (0, 0)) zz2 hb); have n4_ := Aside0.mk (blk_below (g := gb116) (o := .cells #[.int .i64 t112, .slice Ao32 t113.length co32] 38 (0, 0)) zz31 hb); have n5_ := Aside0.mk (below_step zz13 hb); clear HO_11; clear HO_117001; clear BK101; clear BK116; clear HB; have HO_11 := n0_; have HO_117001 := n1_; have HO125 := n2_; have BK101 := n3_; have BK116 := n4_; have HB := n5_; clear n0_ n1_ n2_ n3_ n4_ n5_; (try clear hb); (try clear hb2); (try clear hk); (try clear hi); (try clear ho0); obtain ⟨Ao47, co47, eo47⟩ := Kd.R_slice HO125.out; (first | subst eo47 | (injection eo47 with f1_ f2_ f3_; have f4_ := f1_.symm; have f5_ := f3_.symm; clear f1_ f2_ f3_; subst f4_; subst f5_)); refine hK.out _ _ ⟨(blk_cell BK116.out 0).trans rfl, (blk_cell BK116.out 1).trans rfl, (blk_cell BK101.out 0).trans rfl, (blk_cell BK101.out 1).trans rfl⟩ (fun hHeld => ?_); clear hK K; refine norm_ (a' := ?_) ?_ ?_; rotate_left
      · show Act.put _ (some 52) _ = _; exact zzS
      refine one_ (i := 3) (N := some 53) #[true, true, true, true, false] rfl rfl (by kernel_rfl) (by decide) (fun K hK => ?_); refine goes_ Try.func46 (by kernel_rfl) rfl #[.agg #[.int .i64 t112, .slice Ao32 t113.length co32], .agg #[.int .i64 t122, .slice Ao47 t123.length co47]] (by rfl) rfl rfl zz4 ?_; (with_reducible refine (laws_eqGraph.calls kj16 t112 _ _ t113 t122 _ _ t123 true _ ?side1 ?side2 ?side3 ?side4 A40.out).mono ?_); (case side1 => repeat (first | exact (Kd.R_reads' HO_117001.out).2.2 | (with_reducible refine Kd.C_alloc ?_ _) | (with_reducible refine Kd.C_drewN ?_ _) | (with_reducible refine Kd.C_drew ?_))); (case side2 => exact (Kd.R_reads' HO_117001.out).2.1); (case side3 => repeat (first | exact (Kd.R_reads' HO125.out).2.2 | (with_reducible refine Kd.C_alloc ?_ _) | (with_reducible refine Kd.C_drewN ?_ _) | (with_reducible refine Kd.C_drew ?_))); (case side4 => exact (Kd.R_reads' HO125.out).2.1); rintro e w48 ⟨rfl, hb⟩; refine ⟨_, rfl, ?_⟩; have n0_ := Aside0.mk (Kd.R_below (by (with_reducible repeat (first | apply Kd.R_alloc | apply Kd.R_drewN | apply Kd.R_drew)); exact HO_11.out) hb); have n1_ := Aside0.mk (Kd.R_below zz33 hb); have n2_ := Aside0.mk (Kd.R_below (by (with_reducible repeat (first | apply Kd.R_alloc | apply Kd.R_drewN | apply Kd.R_drew)); exact HO125.out) hb); have n3_ := Aside0.mk (blk_below (g := gb101) (o := .cells #[.int .i64 a0_0, .slice A0_1 l0_1.length c0_1] 33 (0, 0)) zz2 hb); have n4_ := Aside0.mk (blk_below (g := gb116) (o := .cells #[.int .i64 t112, .slice Ao32 t113.length co32] 38 (0, 0)) zz31 hb); have n5_ := Aside0.mk (below_step zz13 hb); clear HO_11; clear HO_117001; clear HO125; clear BK101; clear BK116; clear HB; have HO_11 := n0_; have HO_117001 := n1_; have HO125 := n2_; have BK101 := n3_; have BK116 := n4_; have HB := n5_; clear n0_ n1_ n2_ n3_ n4_ n5_; (try clear hb); (try clear hb2); (try clear hk); (try clear hi); refine hK.out _ _ ⟨(blk_cell BK116.out 0).trans rfl, (blk_cell BK116.out 1).trans rfl, (blk_cell BK101.out 0).trans rfl, (blk_cell BK101.out 1).trans rfl⟩ (fun hHeld => ?_); clear hK K; refine norm_ (a' := ?_) ?_ ?_; rotate_left
      · show Act.put _ (some 53) _ = _; exact zzS
      refine pure_ (i := 4) (N := some 54) (v := ?_) (a' := ?_) #[true, true, true, true, true] rfl rfl (by kernel_rfl) (fun _ _ _ h => h) (Or.inl ⟨by rfl, ?_⟩) ?_ ?_; rotate_left
      · intro w'; exact zzT
      rotate_left
      · exact zzS
      refine done_ (by kernel_rfl) ?_; (try go_wp2_with (first | ((with_reducible refine gate_callee (f := 44) rfl ?_); refine goesL_ (some 57) rfl rfl Try.func44 (by kernel_rfl) rfl #[.slice A1 l1.length c1] rfl zz4 ?_; (with_reducible refine (laws_toIntS.calls kj16 _ _ l1 t127 _ ?side1 ?side2 A42.out).mono ?_); (case side1 => repeat (first | exact (Kd.C_below HR1.out HB.out) | (with_reducible refine Kd.C_alloc ?_ _) | (with_reducible refine Kd.C_drewN ?_ _) | (with_reducible refine Kd.C_drew ?_))); (case side2 => exact HC1.out); rintro e w49 ⟨v128, rfl, ho0, hb⟩; refine ⟨_, rfl, ?_⟩; have n0_ := Aside0.mk (Kd.R_elder' (by (with_reducible repeat (first | apply Kd.R_alloc | apply Kd.R_drewN | apply Kd.R_drew)); exact HO_11.out) (Kd.R_base ho0) hb); have n1_ := Aside0.mk (Kd.R_below zz33 hb); have n2_ := Aside0.mk (Kd.R_below (by (with_reducible repeat (first | apply Kd.R_alloc | apply Kd.R_drewN | apply Kd.R_drew)); exact HO125.out) hb); have n3_ := Aside0.mk (Kd.R_lower (Kd.R_new' ho0 (Kd.R_lt (by (with_reducible repeat (first | apply Kd.R_alloc | apply Kd.R_drewN | apply Kd.R_drew)); exact HO_11.out))) (below_size zz13)); have n4_ := Aside0.mk (blk_below (g := gb101) (o := .cells #[.int .i64 a0_0, .slice A0_1 l0_1.length c0_1] 33 (0, 0)) zz2 hb); have n5_ := Aside0.mk (blk_below (g := gb116) (o := .cells #[.int .i64 t112, .slice Ao32 t113.length co32] 38 (0, 0)) zz31 hb); have n6_ := Aside0.mk (below_step zz13 hb); clear HO_11; clear HO_117001; clear HO125; clear BK101; clear BK116; clear HB; have HO_11 := n0_; have HO_117001 := n1_; have HO125 := n2_; have HO129 := n3_; have BK101 := n4_; have BK116 := n5_; have HB := n6_; clear n0_ n1_ n2_ n3_ n4_ n5_ n6_; (try clear hb); (try clear hb2); (try clear hk); (try clear hi); (try clear ho0); obtain ⟨Ao50, co50, eo50⟩ := Kd.R_slice HO129.out; subst eo50) | ((with_reducible refine gate_callee (f := 36) rfl ?_); refine goesL_ (some 58) rfl rfl Try.func36 (by kernel_rfl) rfl #[.slice Ao35 t117.length co35, .slice Ao50 t127.length co50] rfl zz4 ?_; (with_reducible refine (laws_eqIntS.calls kj16 _ _ t117 _ _ t127 true _ ?side1 ?side2 ?side3 ?side4 A43.out).mono ?_); (case side1 => repeat (first | exact (Kd.R_reads' HO_11.out).2.2 | (with_reducible refine Kd.C_alloc ?_ _) | (with_reducible refine Kd.C_drewN ?_ _) | (with_reducible refine Kd.C_drew ?_))); (case side2 => exact (Kd.R_reads' HO_11.out).2.1); (case side3 => repeat (first | exact (Kd.R_reads' HO129.out).2.2 | (with_reducible refine Kd.C_alloc ?_ _) | (with_reducible refine Kd.C_drewN ?_ _) | (with_reducible refine Kd.C_drew ?_))); (case side4 => exact (Kd.R_reads' HO129.out).2.1); rintro e w' ⟨rfl, ⟨nd, rfl⟩⟩; refine ⟨_, rfl, ?_⟩))); go_ret; exact ⟨by first | rfl | (simp [errW_none, errW_some] <;> rfl) | (simp [*, errW_none, errW_some] <;> rfl), by repeat (first | (with_reducible first | exact HB.out | apply below_alloc | apply pw_below_drewN | apply below_drew1 | refine below_set ?_ GE101.out | refine below_set ?_ GE116.out) | exact HB.out)⟩
end Go.Proofs.Ytjecgolakaiddaa.P
end

section
namespace Go.Proofs.Ytjecgolakaiddaa.P
open Go.RowKit Go.Proofs.YtjecgolakaiddaaW.PrintWords Go.Proofs.YtjecgolakaiddaaW.PrintLast Go.Proofs.YtjecgolakaiddaaW.PrintMore
attribute [local go_sem] max2_int min2_int max_two min_two max_three min_three max_four min_four
set_option linter.unusedVariables false
set_option linter.unusedSimpArgs false
def impl_isVertex.f (a0_0 : Int) (l0_1 : List (S70)) (a1 : Int) : Option (Bool) := (impl_GraphOk.f a0_0 l0_1).bind fun t102 => (if t102 = true then ((impl_within.f a1 0 (wrap64 (a0_0 - 1))).bind fun t103 => (some t103)) else (some false))
end Go.Proofs.Ytjecgolakaiddaa.P
end

section
namespace Go.Proofs.Ytjecgolakaiddaa.P
open Go.RowKit Go.Proofs.YtjecgolakaiddaaW.PrintWords Go.Proofs.YtjecgolakaiddaaW.PrintLast Go.Proofs.YtjecgolakaiddaaW.PrintMore
attribute [local go_sem] max2_int min2_int max_two min_two max_three min_three max_four min_four
set_option linter.unusedVariables false
set_option linter.unusedSimpArgs false
def impl_isAt.f (a0_0 : Int) (l0_1 : List (S70)) (a1 : Int) (a2 : Int) : Option (Bool) := (impl_within.f a1 0 (wrap64 ((l0_1.length : Int) - 1))).bind fun t102 => (if t102 = true then (if 0 ≤ a1 then (if a1 < (l0_1.length : Int) then (if ((rd_T70 l0_1 a1).f0) = a2 then (some true) else (some (((rd_T70 l0_1 a1).f1) == a2))) else (none)) else (none)) else (some false))
end Go.Proofs.Ytjecgolakaiddaa.P
end

section
namespace Go.Proofs.Ytjecgolakaiddaa.Cf
set_option linter.unusedVariables false
set_option linter.unusedSimpArgs false
open Go.RowKit Go.Proofs.YtjecgolakaiddaaW.PrintWords Go.Proofs.Ytjecgolakaiddaa.P
theorem forall_drop' {α : Type} {l : List α} {P : α → Prop} {i : Nat} (h : i < l.length) : (∀ e ∈ l.drop i, P e) ↔ (P l[i] ∧ ∀ e ∈ l.drop (i + 1), P e) := by
  rw [List.drop_eq_getElem_cons h]
  simp only [List.mem_cons, forall_eq_or_imp]
theorem implGraph (n : Int) (es : List E) : impl_GraphOk.f n es = some (gOk n es) := rfl
theorem allWithin_l0 (a b : Int) (l : List Int) (hl : l.length ≤ 1048576) : ∀ (d i : Nat), i + d = l.length → Ep (fun k => impl_allWithin.l0 k a b l (l.length : Int) (i : Int)) (· = decide (∀ x ∈ l.drop i, a ≤ x ∧ x ≤ b)) := by
  intro d
  induction d with
  | zero =>
    intro i hi
    refine Ep.up ?_
    simp only [impl_allWithin.l0]
    refine Ep.neg (by omega) (Ep.now ?_)
    rw [List.drop_of_length_le (by omega)]
    simp
  | succ d ih =>
    intro i hi
    have hlt : i < l.length := by omega
    refine Ep.up ?_
    simp only [impl_allWithin.l0]
    refine Ep.pos (by omega) (Ep.pos (by omega) (Ep.pos (by omega) ?_))
    rw [rd_get hlt, wrap_succ (by omega)]
    refine Ep.bind0 (within_eq _ _ _) ?_
    refine Ep.ite (fun h => ?_) (fun h => Ep.now ?_)
    · have h' : a ≤ l[i] ∧ l[i] ≤ b := by simpa using h
      refine (ih (i + 1) (by omega)).mono ?_
      rintro _ rfl
      simp only [forall_drop' hlt, h', true_and]
    · have h' : ¬ (a ≤ l[i] ∧ l[i] ≤ b) := by simpa using h
      simp only [forall_drop' hlt, h', false_and, decide_false]
theorem allWithin_ok (l : List Int) (a b : Int) (hl : l.length ≤ 1048576) : Ep (fun k => impl_allWithin.f k l a b) (· = decide (∀ x ∈ l, a ≤ x ∧ x ≤ b)) := by
  have := allWithin_l0 a b l hl l.length 0 (by omega)
  simp only [impl_allWithin.f]
  rw [List.drop_zero] at this
  exact this
/-- The edge with this index is at v. -/
def At (es : List E) (k v : Int) : Prop := ∃ j : Nat, k = j ∧ ∃ h : j < es.length, es[j].f0 = v ∨ es[j].f1 = v
theorem At.of {es : List E} {j : Nat} {v : Int} (hj : j < es.length) : At es (j : Int) v ↔ (es[j].f0 = v ∨ es[j].f1 = v) := by
  constructor
  · rintro ⟨i, hi, h, hx⟩
    have : i = j := by omega
    subst this
    exact hx
  · intro h
    exact ⟨j, rfl, hj, h⟩
end Go.Proofs.Ytjecgolakaiddaa.Cf
end

section
namespace Go.Proofs.Ytjecgolakaiddaa.Cf
set_option linter.unusedVariables false
set_option linter.unusedSimpArgs false
def sumN : Nat → (Nat → Int) → Int
  | 0, _ => 0
  | n + 1, f => sumN n f + f n
def sumE (es : List E) (f : E → Int) : Int := (es.map f).sum
theorem sumE_cons (e : E) (r : List E) (f : E → Int) : sumE (e :: r) f = f e + sumE r f := by simp [sumE]
theorem sumN_congr {n : Nat} {f g : Nat → Int} (h : ∀ i, i < n → f i = g i) : sumN n f = sumN n g := by
  induction n with
  | zero => rfl
  | succ n ih => simp only [sumN]; rw [ih (fun i hi => h i (by omega)), h n (by omega)]
theorem sumN_le {n : Nat} {f g : Nat → Int} (h : ∀ i, i < n → f i ≤ g i) : sumN n f ≤ sumN n g := by
  induction n with
  | zero => exact Int.le_refl _
  | succ n ih =>
    simp only [sumN]
    have := ih (fun i hi => h i (by omega))
    have := h n (by omega)
    omega
theorem sumN_add (n : Nat) (f g : Nat → Int) : sumN n (fun i => f i + g i) = sumN n f + sumN n g := by
  induction n with
  | zero => rfl
  | succ n ih => simp only [sumN]; rw [ih]; omega
theorem sumN_zero (n : Nat) : sumN n (fun _ => 0) = 0 := by
  induction n with
  | zero => rfl
  | succ n ih => simp only [sumN]; rw [ih]; rfl
theorem sumN_const (n : Nat) (c : Int) : sumN n (fun _ => c) = n * c := by
  induction n with
  | zero => simp [sumN]
  | succ n ih => simp only [sumN]; rw [ih]; rw [Int.natCast_succ, Int.add_mul]; omega
theorem sumN_one {n : Nat} (k : Nat) (hk : k < n) (c : Int) : sumN n (fun i => if i = k then c else 0) = c := by
  induction n with
  | zero => omega
  | succ n ih =>
    simp only [sumN]
    by_cases h : n = k
    · subst h
      rw [if_pos rfl, sumN_congr (g := fun _ => 0) (fun i hi => by rw [if_neg (by omega)]), sumN_zero]
      omega
    · rw [ih (by omega), if_neg h]
      omega
theorem sumE_congr {es : List E} {f g : E → Int} (h : ∀ e ∈ es, f e = g e) : sumE es f = sumE es g := by
  unfold sumE
  rw [List.map_congr_left h]
theorem sumE_add (es : List E) (f g : E → Int) : sumE es (fun e => f e + g e) = sumE es f + sumE es g := by
  induction es with
  | nil => rfl
  | cons e r ih => rw [sumE_cons, sumE_cons, sumE_cons, ih]; omega
theorem sumE_le {es : List E} {f g : E → Int} (h : ∀ e ∈ es, f e ≤ g e) : sumE es f ≤ sumE es g := by
  induction es with
  | nil => exact Int.le_refl _
  | cons e r ih =>
    rw [sumE_cons, sumE_cons]
    have := ih (fun x hx => h x (List.mem_cons_of_mem _ hx))
    have := h e List.mem_cons_self
    omega
theorem sumE_zero {es : List E} {f : E → Int} (h : ∀ e ∈ es, f e = 0) : sumE es f = 0 := by
  induction es with
  | nil => rfl
  | cons e r ih => rw [sumE_cons, ih (fun x hx => h x (List.mem_cons_of_mem _ hx)), h e List.mem_cons_self]; rfl
theorem sumE_nonneg {es : List E} {f : E → Int} (h : ∀ e ∈ es, 0 ≤ f e) : 0 ≤ sumE es f := by
  have := sumE_le (es := es) (f := fun _ => 0) (g := f) h
  rw [sumE_zero (fun _ _ => rfl)] at this
  exact this
theorem sumE_term {es : List E} {f : E → Int} (h : ∀ e ∈ es, 0 ≤ f e) {e : E} (he : e ∈ es) : f e ≤ sumE es f := by
  induction es with
  | nil => cases he
  | cons a r ih =>
    rw [sumE_cons]
    have h0 := sumE_nonneg (fun x hx => h x (List.mem_cons_of_mem a hx))
    rcases List.mem_cons.1 he with rfl | he
    · omega
    · have := ih (fun x hx => h x (List.mem_cons_of_mem _ hx)) he
      have := h a List.mem_cons_self
      omega
theorem sumE_neg (es : List E) (f : E → Int) : sumE es (fun e => - f e) = - sumE es f := by
  induction es with
  | nil => rfl
  | cons e r ih => rw [sumE_cons, sumE_cons, ih]; omega
theorem sumE_mul (es : List E) (c : Int) (f : E → Int) : sumE es (fun e => c * f e) = c * sumE es f := by
  induction es with
  | nil => simp [sumE]
  | cons e r ih => rw [sumE_cons, sumE_cons, ih, Int.mul_add]
/-- What an edge takes from w when the script s is fired. -/
def lapE (s : Int → Int) (w : Int) (e : E) : Int := (if e.f0 = w then s e.f0 - s e.f1 else 0) + (if e.f1 = w then s e.f1 - s e.f0 else 0)
/-- What w loses when the script s is fired. -/
def lap (es : List E) (s : Int → Int) (w : Int) : Int := sumE es (lapE s w)
def ind (P : Int → Bool) (v : Int) : Int := if P v then 1 else 0
def one (v : Int) (t : Int) (w : Int) : Int := if w = v then t else 0
theorem lap_nil (s : Int → Int) (w : Int) : lap [] s w = 0 := rfl
theorem lap_cons (e : E) (r : List E) (s : Int → Int) (w : Int) : lap (e :: r) s w = lapE s w e + lap r s w := sumE_cons _ _ _
theorem lap_add (es : List E) (s t : Int → Int) (w : Int) : lap es (fun v => s v + t v) w = lap es s w + lap es t w := by
  unfold lap
  rw [← sumE_add]
  apply sumE_congr
  intro e _
  simp only [lapE]
  split <;> split <;> omega
theorem lap_neg (es : List E) (s : Int → Int) (w : Int) : lap es (fun v => - s v) w = - lap es s w := by
  unfold lap
  rw [← sumE_neg]
  apply sumE_congr
  intro e _
  simp only [lapE]
  split <;> split <;> omega
theorem lap_sub (es : List E) (s t : Int → Int) (w : Int) : lap es (fun v => s v - t v) w = lap es s w - lap es t w := by
  have := lap_add es s (fun v => - t v) w
  rw [lap_neg] at this
  rw [show (fun v => s v - t v) = (fun v => s v + - t v) from funext fun v => by omega, this]
  omega
theorem lap_congr {n : Int} {es : List E} (hes : ∀ e ∈ es, EOk n e) {s t : Int → Int} (h : ∀ v, 0 ≤ v → v < n → s v = t v) (w : Int) : lap es s w = lap es t w := by
  apply sumE_congr
  intro e he
  have hk := hes e he
  unfold EOk at hk
  unfold lapE
  rw [h e.f0 (by omega) (by omega), h e.f1 (by omega) (by omega)]
theorem lap_const {es : List E} {s : Int → Int} {c : Int} (h : ∀ e ∈ es, s e.f0 = c ∧ s e.f1 = c) (w : Int) : lap es s w = 0 := by
  apply sumE_zero
  intro e he
  unfold lapE
  rw [(h e he).1, (h e he).2]
  split <;> split <;> omega
/-- Dirichlet's form. -/
theorem dirichlet {n : Nat} {es : List E} (hes : ∀ e ∈ es, EOk n e) (f s : Int → Int) : sumN n (fun i => f i * lap es s i) = sumE es (fun e => (f e.f0 - f e.f1) * (s e.f0 - s e.f1)) := by
  induction es with
  | nil => simp only [lap_nil, Int.mul_zero]; rw [sumN_zero]; rfl
  | cons e r ih =>
    have hk := hes e List.mem_cons_self
    unfold EOk at hk
    rw [sumE_cons, ← ih (fun x hx => hes x (List.mem_cons_of_mem _ hx))]
    have h1 : sumN n (fun i => f i * lap (e :: r) s i) = sumN n (fun i => f i * lapE s i e) + sumN n (fun i => f i * lap r s i) := by
      rw [← sumN_add]
      apply sumN_congr
      intro i _
      rw [lap_cons, Int.mul_add]
    rw [h1]
    congr 1
    have h2 : sumN n (fun i => f i * lapE s i e) = sumN n (fun i => if i = e.f0.toNat then f e.f0 * (s e.f0 - s e.f1) else 0) + sumN n (fun i => if i = e.f1.toNat then f e.f1 * (s e.f1 - s e.f0) else 0) := by
      rw [← sumN_add]
      apply sumN_congr
      intro i _
      unfold lapE
      have c0 : (e.f0 = (i : Int)) ↔ (i = e.f0.toNat) := by omega
      have c1 : (e.f1 = (i : Int)) ↔ (i = e.f1.toNat) := by omega
      rw [Int.mul_add]
      congr 1
      · by_cases h : e.f0 = (i : Int)
        · rw [if_pos h, if_pos (c0.1 h), h]
        · rw [if_neg h, if_neg (fun x => h (c0.2 x)), Int.mul_zero]
      · by_cases h : e.f1 = (i : Int)
        · rw [if_pos h, if_pos (c1.1 h), h]
        · rw [if_neg h, if_neg (fun x => h (c1.2 x)), Int.mul_zero]
    rw [h2, sumN_one _ (by omega), sumN_one _ (by omega)]
    rw [show s e.f1 - s e.f0 = -(s e.f0 - s e.f1) by omega, Int.mul_neg, Int.sub_mul]
    omega
/-- Across an edge out of a set that is above, no more than what the set loses. -/
theorem cut_le {n : Nat} {es : List E} (hes : ∀ e ∈ es, EOk n e) {s : Int → Int} {t C : Int} (hC : sumN n (fun i => ind (fun v => decide (t ≤ s v)) i * lap es s i) ≤ C) {a b : Int} (hab : Adj es a b) (ha : t ≤ s a) (hb : s b < t) : s a - s b ≤ C := by
  rw [dirichlet hes] at hC
  obtain ⟨e, he, hx⟩ := hab
  have hnn : ∀ e ∈ es, 0 ≤ (ind (fun v => decide (t ≤ s v)) e.f0 - ind (fun v => decide (t ≤ s v)) e.f1) * (s e.f0 - s e.f1) := by
    intro e _
    unfold ind
    by_cases h0 : t ≤ s e.f0 <;> by_cases h1 : t ≤ s e.f1 <;> simp [h0, h1] <;> omega
  have h1 := sumE_term hnn he
  have h2 : s a - s b ≤ (ind (fun v => decide (t ≤ s v)) e.f0 - ind (fun v => decide (t ≤ s v)) e.f1) * (s e.f0 - s e.f1) := by
    unfold ind
    rcases hx with ⟨x0, x1⟩ | ⟨x0, x1⟩
    · subst x0; subst x1
      have h1 : ¬ t ≤ s e.f1 := by omega
      simp [ha, h1]
    · subst x0; subst x1
      have h1 : ¬ t ≤ s e.f0 := by omega
      simp [ha, h1]
      omega
  omega
/-- From a set that is not all and not closed an edge leads out. -/
theorem exists_cut {es : List E} {S : Int → Prop} {a b : Int} (hab : Conn es a b) (ha : ¬ S a) (hb : S b) : ∃ u w, Adj es u w ∧ S u ∧ ¬ S w := by
  induction hab with
  | refl => exact absurd hb ha
  | @tail x y _ hadj ih =>
    by_cases hx : S x
    · exact ih hx
    · exact ⟨y, x, hadj.symm, hb, hx⟩
def below (n : Nat) (s : Int → Int) (t : Int) : Nat := (List.range n).countP (fun i => decide (s (i : Nat) < t))
/-- A script that is 0 at q, all of whose upper sets lose no more than C, is at most 6 C. -/
theorem script_le {n : Nat} {es : List E} (hes : ∀ e ∈ es, EOk n e) (hj : Joined n es) {q : Int} (hq : 0 ≤ q ∧ q < n) {s : Int → Int} {C : Int} (hC0 : 0 ≤ C) (hsq : s q ≤ 0)
    (hC : ∀ t : Int, 0 < t → sumN n (fun i => ind (fun v => decide (t ≤ s v)) i * lap es s i) ≤ C) : ∀ v : Int, 0 ≤ v → v < n → s v ≤ n * C := by
  have key : ∀ k : Nat, ∀ v : Int, 0 ≤ v → v < n → below n s (s v) ≤ k → s v ≤ k * C := by
    intro k
    induction k with
    | zero =>
      intro v h0 h1 hk
      apply Classical.byContradiction
      intro hc
      have hpos : 0 < below n s (s v) := by
        unfold below
        rw [List.countP_pos_iff]
        refine ⟨q.toNat, List.mem_range.2 (by omega), ?_⟩
        have : ((q.toNat : Nat) : Int) = q := by omega
        rw [this]
        simp
        omega
      omega
    | succ k ih =>
      intro v h0 h1 hk
      by_cases hpos : s v ≤ 0
      · have : 0 ≤ ((k + 1 : Nat) : Int) * C := Int.mul_nonneg (by omega) hC0
        omega
      · have hqv : Conn es q v := ((hj q hq.1 hq.2).symm).trans (hj v h0 h1)
        obtain ⟨u, w, hadj, hu, hw⟩ := exists_cut (S := fun x => s v ≤ s x) hqv (by omega) (Int.le_refl _)
        have hcut := cut_le hes (hC (s v) (by omega)) hadj hu (by omega)
        have hw0 := EsOk.adj hes hadj
        have hlt : below n s (s w) < below n s (s v) := by
          refine countP_lt (fun x _ hx => ?_) ⟨w.toNat, List.mem_range.2 (by omega), ?_, ?_⟩
          · simp only [decide_eq_true_eq] at hx ⊢
            omega
          · have : ((w.toNat : Nat) : Int) = w := by omega
            rw [this]; simp
          · have : ((w.toNat : Nat) : Int) = w := by omega
            rw [this]; simp; omega
        have := ih w hw0.1 hw0.2 (by omega)
        rw [Int.natCast_succ, Int.add_mul, Int.one_mul]
        omega
  intro v h0 h1
  refine key n v h0 h1 ?_
  have := List.countP_le_length (p := fun i => decide (s ((i : Nat) : Int) < s v)) (l := List.range n)
  rw [List.length_range] at this
  exact this
end Go.Proofs.Ytjecgolakaiddaa.Cf
end

section
namespace Go.Proofs.Ytjecgolakaiddaa.Cf
set_option linter.unusedVariables false
set_option linter.unusedSimpArgs false
theorem script_bd {n : Nat} {es : List E} (hes : ∀ e ∈ es, EOk n e) (hj : Joined n es) {q : Int} (hq : 0 ≤ q ∧ q < n) {s : Int → Int} {c : Int} (hc : 0 ≤ c) (hsq : s q ≤ 0)
    (h : ∀ v : Int, 0 ≤ v → v < n → 0 < s v → lap es s v ≤ c) : ∀ v : Int, 0 ≤ v → v < n → s v ≤ n * (n * c) := by
  refine script_le hes hj hq (Int.mul_nonneg (by omega) hc) hsq ?_
  intro t ht
  rw [← sumN_const]
  apply sumN_le
  intro i hi
  unfold ind
  by_cases hx : t ≤ s i
  · simp only [hx, decide_true, if_true, Int.one_mul]
    exact h i (by omega) (by omega) (by omega)
  · simp only [hx, decide_false, Int.zero_mul, Bool.false_eq_true, if_false]
    exact hc
def valE (v : Int) (e : E) : Int := if e.f0 = v ∨ e.f1 = v then 1 else 0
/-- The number of edges at a vertex. -/
def val (es : List E) (v : Int) : Int := sumE es (valE v)
def multE (a b : Int) (e : E) : Int := if (e.f0 = a ∧ e.f1 = b) ∨ (e.f0 = b ∧ e.f1 = a) then 1 else 0
/-- The number of edges between two vertices. -/
def mult (es : List E) (a b : Int) : Int := sumE es (multE a b)
theorem val_nonneg (es : List E) (v : Int) : 0 ≤ val es v := sumE_nonneg fun e _ => by unfold valE; split <;> omega
theorem mult_nonneg (es : List E) (a b : Int) : 0 ≤ mult es a b := sumE_nonneg fun e _ => by unfold multE; split <;> omega
theorem sumE_len {es : List E} {f : E → Int} (h : ∀ e ∈ es, f e ≤ 1) : sumE es f ≤ es.length := by
  induction es with
  | nil => simp [sumE]
  | cons e r ih =>
    rw [sumE_cons]
    have := ih (fun x hx => h x (List.mem_cons_of_mem _ hx))
    have := h e List.mem_cons_self
    simp only [List.length_cons]
    omega
theorem mult_le (es : List E) (a b : Int) : mult es a b ≤ es.length := sumE_len fun e _ => by unfold multE; split <;> omega
/-- One vertex fires: it loses its valence. -/
theorem lap_one_self {n : Int} {es : List E} (hes : ∀ e ∈ es, EOk n e) (v t : Int) : lap es (one v t) v = t * val es v := by
  unfold lap val
  rw [← sumE_mul]
  apply sumE_congr
  intro e he
  have hk := hes e he
  unfold EOk at hk
  unfold lapE valE one
  by_cases a : e.f0 = v
  · have b : ¬ e.f1 = v := by omega
    simp [a, b]
  · by_cases b : e.f1 = v
    · simp [a, b]
    · simp [a, b]
/-- .. and another one gains along their edges. -/
theorem lap_one_ne {n : Int} {es : List E} (hes : ∀ e ∈ es, EOk n e) {v w : Int} (hvw : w ≠ v) (t : Int) : lap es (one v t) w = - (t * mult es v w) := by
  unfold lap mult
  rw [← sumE_mul, ← sumE_neg]
  apply sumE_congr
  intro e he
  have hk := hes e he
  unfold EOk at hk
  unfold lapE multE one
  by_cases a : e.f0 = w
  · have b : ¬ e.f1 = w := by omega
    have c : ¬ e.f0 = v := by omega
    by_cases x : e.f1 = v
    · simp [a, x]; omega
    · simp [a, b, x, hvw]
  · by_cases b : e.f1 = w
    · have c : ¬ e.f1 = v := by omega
      by_cases x : e.f0 = v
      · simp [a, b, x]; omega
      · simp [a, b, x, hvw]
    · simp [a, b]
theorem val_pos {n : Nat} {es : List E} (hj : Joined n es) {q v : Int} (hq : 0 ≤ q ∧ q < n) (hv : 0 ≤ v ∧ v < n) (hne : v ≠ q) : 0 < val es v := by
  have hc : Conn es q v := ((hj q hq.1 hq.2).symm).trans (hj v hv.1 hv.2)
  obtain ⟨u, w, ⟨e, he, hx⟩, hu, hw⟩ := exists_cut (S := fun x => x = v) hc (fun h => hne h.symm) rfl
  subst hu
  have h1 := sumE_term (f := valE u) (fun e _ => by unfold valE; split <;> omega) he
  have h2 : valE u e = 1 := by
    unfold valE
    rw [if_pos]
    rcases hx with ⟨a, _⟩ | ⟨_, b⟩
    · exact .inl a
    · exact .inr b
  unfold val
  omega
/-- s is reached from p by toppling unstable vertices other than q. -/
inductive Legal (n : Nat) (es : List E) (q : Int) (p : Int → Int) : (Int → Int) → Prop
  | zero : Legal n es q p (fun _ => 0)
  | step {s : Int → Int} {v : Int} : Legal n es q p s → 0 ≤ v → v < n → v ≠ q → val es v ≤ p v - lap es s v → Legal n es q p (fun w => s w + one v 1 w)
def Stable (n : Nat) (es : List E) (q : Int) (d : Int → Int) : Prop := ∀ v : Int, 0 ≤ v → v < n → v ≠ q → d v < val es v
theorem lap_le_zero {es : List E} {r : Int → Int} {v : Int} (h : ∀ w, 0 ≤ r w) (hv : r v = 0) : lap es r v ≤ 0 := by
  have := sumE_le (es := es) (f := lapE r v) (g := fun _ => 0) (fun e _ => by
    unfold lapE
    have h0 := h e.f0
    have h1 := h e.f1
    by_cases a : e.f0 = v
    · by_cases b : e.f1 = v
      · simp [a, b]
      · rw [if_pos a, if_neg b, a, hv]; omega
    · by_cases b : e.f1 = v
      · rw [if_neg a, if_pos b, b, hv]; omega
      · rw [if_neg a, if_neg b]; omega)
  rw [sumE_zero (fun _ _ => rfl)] at this
  exact this
theorem Legal.nonneg {n : Nat} {es : List E} {q : Int} {p s : Int → Int} (h : Legal n es q p s) : (∀ w, 0 ≤ s w) ∧ s q = 0 := by
  induction h with
  | zero => exact ⟨fun _ => Int.le_refl _, rfl⟩
  | @step s v _ _ _ hq _ ih =>
    refine ⟨fun w => ?_, ?_⟩
    · have := ih.1 w
      show 0 ≤ s w + one v 1 w
      unfold one
      split <;> omega
    · have := ih.2
      show s q + one v 1 q = 0
      unfold one
      rw [if_neg (fun x : q = v => hq x.symm)]
      omega
/-- The least action: a legal script is at most any script that stabilizes. -/
theorem Legal.least {n : Nat} {es : List E} {q : Int} {p s t : Int → Int} (h : Legal n es q p s) (ht : ∀ w, 0 ≤ t w) (hst : Stable n es q (fun v => p v - lap es t v)) : ∀ w, s w ≤ t w := by
  induction h with
  | zero => exact ht
  | @step s v _ h0 h1 hq hv ih =>
    intro w
    show s w + one v 1 w ≤ t w
    unfold one
    by_cases e : w = v
    · subst e
      rw [if_pos rfl]
      have := ih w
      by_cases hlt : s w < t w
      · omega
      · exfalso
        have hle := lap_le_zero (es := es) (r := fun x => t x - s x) (v := w) (fun x => by have := ih x; omega) (by omega)
        rw [lap_sub] at hle
        have := hst w h0 h1 hq
        simp only at this
        omega
    · rw [if_neg e]
      have := ih w
      omega
/-- Two legal scripts that stabilize are one. -/
theorem Legal.unique {n : Nat} {es : List E} {q : Int} {p s t : Int → Int} (hs : Legal n es q p s) (ht : Legal n es q p t) (ss : Stable n es q (fun v => p v - lap es s v)) (st : Stable n es q (fun v => p v - lap es t v)) : s = t := by
  funext w
  have := hs.least ht.nonneg.1 st w
  have := ht.least hs.nonneg.1 ss w
  omega
/-- Several topplings of one vertex at once. -/
theorem Legal.many {n : Nat} {es : List E} (hes : ∀ e ∈ es, EOk n e) {q : Int} {p s : Int → Int} (h : Legal n es q p s) {v : Int} (h0 : 0 ≤ v) (h1 : v < n) (hq : v ≠ q) : ∀ k : Nat, k * val es v ≤ p v - lap es s v → Legal n es q p (fun w => s w + one v k w)
  | 0, _ => by
    have : (fun w => s w + one v ((0 : Nat) : Int) w) = s := by
      funext w
      unfold one
      split <;> simp
    rw [this]
    exact h
  | k + 1, hk => by
    have hv := val_nonneg es v
    rw [Int.natCast_succ, Int.add_mul] at hk
    have ih := Legal.many hes h h0 h1 hq k (by omega)
    have := Legal.step ih h0 h1 hq (by
      rw [lap_add, lap_one_self hes]
      omega)
    have e : (fun w => s w + one v ((k + 1 : Nat) : Int) w) = fun w => s w + one v (k : Int) w + one v 1 w := by
      funext w
      unfold one
      split <;> omega
    rw [e]
    exact this
end Go.Proofs.Ytjecgolakaiddaa.Cf
end

section
namespace Go.Proofs.Ytjecgolakaiddaa.Cf
set_option linter.unusedVariables false
set_option linter.unusedSimpArgs false
open Go.RowKit Go.Proofs.YtjecgolakaiddaaW.PrintWords Go.Proofs.Ytjecgolakaiddaa.P
/-- A divisor. -/
def dOk (n : Int) (es : List E) (d : List Int) : Bool := gOk n es && (decide ((d.length : Int) = n) && decide (∀ x ∈ d, -60 ≤ x ∧ x ≤ 60))
theorem dOk_iff {n : Int} {es : List E} {d : List Int} : dOk n es d = true ↔ GOk n es ∧ (d.length : Int) = n ∧ ∀ x ∈ d, -60 ≤ x ∧ x ≤ 60 := by
  unfold dOk
  simp only [Bool.and_eq_true, decide_eq_true_eq, gOk_iff]
theorem specDiv_l0 (o : List Int) (hl : o.length ≤ 1048576) : ∀ (d i : Nat), i + d = o.length → Ep (fun k => spec_DivisorOk.l0 k o (o.length : Int) (i : Int)) (· = decide (∀ x ∈ o.drop i, -60 ≤ x ∧ x ≤ 60)) := by
  intro d
  induction d with
  | zero =>
    intro i hi
    refine Ep.up ?_
    simp only [spec_DivisorOk.l0]
    refine Ep.neg (by omega) (Ep.now ?_)
    rw [List.drop_of_length_le (by omega)]
    simp
  | succ d ih =>
    intro i hi
    have hlt : i < o.length := by omega
    refine Ep.up ?_
    simp only [spec_DivisorOk.l0]
    refine Ep.pos (by omega) (Ep.pos (by omega) (Ep.pos (by omega) ?_))
    rw [rd_get hlt, wrap_succ (by omega)]
    refine Ep.bind0 (l01In_eq _ _ _) ?_
    refine Ep.ite (fun h => ?_) (fun h => Ep.now ?_)
    · have h' : -60 ≤ o[i] ∧ o[i] ≤ 60 := by simpa using h
      refine (ih (i + 1) (by omega)).mono ?_
      rintro _ rfl
      simp only [forall_drop' hlt, h', true_and]
    · have h' : ¬ (-60 ≤ o[i] ∧ o[i] ≤ 60) := by simpa using h
      simp only [forall_drop' hlt, h', false_and, decide_false]
theorem specDiv (n : Int) (es : List E) (d : List Int) (hl : d.length ≤ 1048576) : Ep (fun k => spec_DivisorOk.f k n es d) (· = dOk n es d) := by
  simp only [spec_DivisorOk.f, dOk]
  refine Ep.bind (specGraph n es) ?_
  rintro _ rfl
  refine Ep.ite (fun hg => ?_) (fun hg => ?_)
  · refine Ep.up ?_
    simp only [spec_DivisorOk.j0]
    refine Ep.ite (fun h => Ep.now ?_) (fun h => ?_)
    · have h' : ¬ (d.length : Int) = n := by simpa using h
      simp [h']
    · have h' : (d.length : Int) = n := by simpa using h
      refine (specDiv_l0 d hl d.length 0 (by omega)).mono ?_
      rintro _ rfl
      rw [List.drop_zero, hg]
      simp only [h', decide_true, Bool.true_and]
  · refine Ep.up ?_
    simp only [spec_DivisorOk.j0]
    refine Ep.pos trivial (Ep.now ?_)
    have : gOk n es = false := by simpa using hg
    simp [this]
theorem implDiv (n : Int) (es : List E) (d : List Int) (hl : d.length ≤ 1048576) : Ep (fun k => impl_DivisorOk.f k n es d) (· = dOk n es d) := by
  simp only [impl_DivisorOk.f, dOk]
  refine Ep.bind0 (implGraph n es) (Ep.ite (fun hg => ?_) (fun hg => Ep.now ?_))
  · refine Ep.ite (fun h => ?_) (fun h => Ep.now ?_)
    · refine Ep.bind (allWithin_ok d (-60) 60 hl) ?_
      rintro _ rfl
      refine Ep.now ?_
      rw [hg]
      simp only [h, decide_true, Bool.true_and]
    · simp [h]
  · have : gOk n es = false := by simpa using hg
    simp [this]
theorem specEff_l0 (o : List Int) (hl : o.length ≤ 1048576) : ∀ (d i : Nat), i + d = o.length → Ep (fun k => spec_IsEffective.l0 k o (o.length : Int) (i : Int)) (· = decide (∀ x ∈ o.drop i, 0 ≤ x)) := by
  intro d
  induction d with
  | zero =>
    intro i hi
    refine Ep.up ?_
    simp only [spec_IsEffective.l0]
    refine Ep.neg (by omega) (Ep.now ?_)
    rw [List.drop_of_length_le (by omega)]
    simp
  | succ d ih =>
    intro i hi
    have hlt : i < o.length := by omega
    refine Ep.up ?_
    simp only [spec_IsEffective.l0]
    refine Ep.pos (by omega) (Ep.pos (by omega) (Ep.pos (by omega) ?_))
    rw [rd_get hlt, wrap_succ (by omega)]
    refine Ep.ite (fun h => Ep.now ?_) (fun h => ?_)
    · have h' : ¬ 0 ≤ o[i] := by omega
      simp only [forall_drop' hlt, h', false_and, decide_false]
    · have h' : 0 ≤ o[i] := by omega
      refine (ih (i + 1) (by omega)).mono ?_
      rintro _ rfl
      simp only [forall_drop' hlt, h', true_and]
theorem specEff (d : List Int) (hl : d.length ≤ 1048576) : Ep (fun k => spec_IsEffective.f k d) (· = decide (∀ x ∈ d, 0 ≤ x)) := by
  have := specEff_l0 d hl d.length 0 (by omega)
  simp only [spec_IsEffective.f]
  rw [List.drop_zero] at this
  exact this
theorem implEff_l0 (o : List Int) (hl : o.length ≤ 1048576) : ∀ (d i : Nat), i + d = o.length → Ep (fun k => impl_IsEffective.l0 k o (o.length : Int) (i : Int)) (· = decide (∀ x ∈ o.drop i, 0 ≤ x)) := by
  intro d
  induction d with
  | zero =>
    intro i hi
    refine Ep.up ?_
    simp only [impl_IsEffective.l0]
    refine Ep.neg (by omega) (Ep.now ?_)
    rw [List.drop_of_length_le (by omega)]
    simp
  | succ d ih =>
    intro i hi
    have hlt : i < o.length := by omega
    refine Ep.up ?_
    simp only [impl_IsEffective.l0]
    refine Ep.pos (by omega) (Ep.pos (by omega) (Ep.pos (by omega) ?_))
    rw [rd_get hlt, wrap_succ (by omega)]
    refine Ep.ite (fun h => Ep.now ?_) (fun h => ?_)
    · have h' : ¬ 0 ≤ o[i] := by omega
      simp only [forall_drop' hlt, h', false_and, decide_false]
    · have h' : 0 ≤ o[i] := by omega
      refine (ih (i + 1) (by omega)).mono ?_
      rintro _ rfl
      simp only [forall_drop' hlt, h', true_and]
theorem implEff (d : List Int) (hl : d.length ≤ 1048576) : Ep (fun k => impl_IsEffective.f k d) (· = decide (∀ x ∈ d, 0 ≤ x)) := by
  have := implEff_l0 d hl d.length 0 (by omega)
  simp only [impl_IsEffective.f]
  rw [List.drop_zero] at this
  exact this
/-- A configuration. -/
def pOk (n : Int) (es : List E) (p : List Int) (q : Int) : Bool := dOk n es p && (decide (0 ≤ q ∧ q < n) && (decide (∀ x ∈ p, 0 ≤ x) && decide (rd p q = 0)))
theorem pOk_iff {n : Int} {es : List E} {p : List Int} {q : Int} : pOk n es p q = true ↔ (GOk n es ∧ (p.length : Int) = n ∧ ∀ x ∈ p, -60 ≤ x ∧ x ≤ 60) ∧ (0 ≤ q ∧ q < n) ∧ (∀ x ∈ p, 0 ≤ x) ∧ rd p q = 0 := by
  unfold pOk
  simp only [Bool.and_eq_true, decide_eq_true_eq, dOk_iff]
theorem specPile (n : Int) (es : List E) (p : List Int) (q : Int) (hl : p.length ≤ 1048576) : Ep (fun k => spec_PileOk.f k n es p q) (· = pOk n es p q) := by
  simp only [spec_PileOk.f, pOk]
  refine Ep.bind (specDiv n es p hl) ?_
  rintro _ rfl
  refine Ep.ite (fun hd => ?_) (fun hd => Ep.now ?_)
  · obtain ⟨⟨⟨h1, h6, _, _⟩, _, _⟩, hpl, _⟩ := dOk_iff.1 hd
    rw [wrap_id (x := n - 1) (by omega) (by omega)]
    refine Ep.bind0 (l01In_eq _ _ _) ?_
    have hq : (0 ≤ q ∧ q ≤ n - 1) ↔ (0 ≤ q ∧ q < n) := by omega
    simp only [hq]
    refine Ep.ite (fun h => ?_) (fun h => Ep.now ?_)
    · refine Ep.bind (specEff p hl) ?_
      rintro _ rfl
      have h' : 0 ≤ q ∧ q < n := by simpa using h
      refine Ep.ite (fun he => Ep.pos h'.1 (Ep.pos (by omega) (Ep.now ?_))) (fun he => Ep.now ?_)
      · rw [hd, h, he]
        rfl
      · have he' : decide (∀ x ∈ p, 0 ≤ x) = false := by simpa using he
        rw [he']
        simp
    · have h' : decide (0 ≤ q ∧ q < n) = false := by simpa using h
      rw [h']
      simp
  · have hd' : dOk n es p = false := by simpa using hd
    rw [hd']
    rfl
theorem implPile (n : Int) (es : List E) (p : List Int) (q : Int) (hl : p.length ≤ 1048576) : Ep (fun k => impl_PileOk.f k n es p q) (· = pOk n es p q) := by
  simp only [impl_PileOk.f, pOk]
  refine Ep.bind (implDiv n es p hl) ?_
  rintro _ rfl
  refine Ep.ite (fun hd => ?_) (fun hd => Ep.now ?_)
  · obtain ⟨⟨⟨h1, h6, _, _⟩, _, _⟩, hpl, _⟩ := dOk_iff.1 hd
    rw [wrap_id (x := n - 1) (by omega) (by omega)]
    refine Ep.bind0 (within_eq _ _ _) ?_
    have hq : (0 ≤ q ∧ q ≤ n - 1) ↔ (0 ≤ q ∧ q < n) := by omega
    simp only [hq]
    refine Ep.ite (fun h => ?_) (fun h => Ep.now ?_)
    · refine Ep.bind (implEff p hl) ?_
      rintro _ rfl
      have h' : 0 ≤ q ∧ q < n := by simpa using h
      refine Ep.ite (fun he => Ep.pos h'.1 (Ep.pos (by omega) (Ep.now ?_))) (fun he => Ep.now ?_)
      · rw [hd, h, he]
        rfl
      · have he' : decide (∀ x ∈ p, 0 ≤ x) = false := by simpa using he
        rw [he']
        simp
    · have h' : decide (0 ≤ q ∧ q < n) = false := by simpa using h
      rw [h']
      simp
  · have hd' : dOk n es p = false := by simpa using hd
    rw [hd']
    rfl
/-- The valence, 0 where there is no such vertex. -/
def valG (n : Int) (es : List E) (v : Int) : Int := if 0 ≤ v ∧ v < n then val es v else 0
theorem val_drop {es : List E} {i : Nat} (h : i < es.length) (v : Int) : val (es.drop i) v = valE v es[i] + val (es.drop (i + 1)) v := by
  rw [List.drop_eq_getElem_cons h]
  exact sumE_cons _ _ _
theorem specVal_loop (v : Int) (es : List E) (hl : es.length ≤ 1048576) : ∀ (d i : Nat) (a : Int), i + d = es.length → 0 ≤ a → a ≤ i → Ep (fun k => spec_Valence.l0 k v a es (es.length : Int) (i : Int)) (· = a + val (es.drop i) v) := by
  intro d
  induction d with
  | zero =>
    intro i a hi h0 ha
    refine Ep.up ?_
    simp only [spec_Valence.l0]
    refine Ep.neg (by omega) (Ep.now ?_)
    rw [List.drop_of_length_le (by omega)]
    simp [val, sumE]
  | succ d ih =>
    intro i a hi h0 ha
    have hlt : i < es.length := by omega
    refine Ep.up ?_
    simp only [spec_Valence.l0]
    refine Ep.pos (by omega) (Ep.pos (by omega) (Ep.pos (by omega) ?_))
    rw [rdE_get hlt, wrap_succ (by omega), wrap_id (x := a + 1) (by omega) (by omega), val_drop hlt]
    refine Ep.ite (fun h => ?_) (fun h => Ep.ite (fun h2 => ?_) (fun h2 => ?_))
    · refine (ih (i + 1) (a + 1) (by omega) (by omega) (by omega)).mono ?_
      rintro _ rfl
      unfold valE
      rw [if_pos (.inl h)]
      omega
    · refine (ih (i + 1) (a + 1) (by omega) (by omega) (by omega)).mono ?_
      rintro _ rfl
      unfold valE
      rw [if_pos (.inr h2)]
      omega
    · refine (ih (i + 1) a (by omega) h0 (by omega)).mono ?_
      rintro _ rfl
      unfold valE
      rw [if_neg (by rintro (x | x); exact h x; exact h2 x)]
      omega
theorem specValence (n : Int) (es : List E) (v : Int) (hl : es.length ≤ 1048576) : Ep (fun k => spec_Valence.f k n es v) (· = valG n es v) := by
  have hv : spec_l02Vert.f n es v = some (decide (0 ≤ v ∧ v < n)) := by
    unfold spec_l02Vert.f
    by_cases h : v ≥ 0
    · rw [if_pos h]
      have : (0 ≤ v ∧ v < n) ↔ v < n := ⟨fun x => x.2, fun x => ⟨h, x⟩⟩
      simp only [this]
    · rw [if_neg h]
      have : ¬ (0 ≤ v ∧ v < n) := fun x => h x.1
      simp only [this, decide_false]
  simp only [spec_Valence.f, valG]
  refine Ep.bind0 hv (Ep.ite (fun h => ?_) (fun h => Ep.now ?_))
  · refine (specVal_loop v es hl es.length 0 0 (by omega) (by omega) (by omega)).mono ?_
    rintro _ rfl
    rw [if_pos (by simpa using h), List.drop_zero]
    omega
  · rw [if_neg (by simpa using h)]
theorem implVal_loop (v : Int) (es : List E) (hl : es.length ≤ 1048576) : ∀ (d i : Nat) (a : Int), i + d = es.length → 0 ≤ a → a ≤ i → Ep (fun k => impl_Valence.l0 k v a es (es.length : Int) (i : Int)) (· = a + val (es.drop i) v) := by
  intro d
  induction d with
  | zero =>
    intro i a hi h0 ha
    refine Ep.up ?_
    simp only [impl_Valence.l0]
    refine Ep.neg (by omega) (Ep.now ?_)
    rw [List.drop_of_length_le (by omega)]
    simp [val, sumE]
  | succ d ih =>
    intro i a hi h0 ha
    have hlt : i < es.length := by omega
    refine Ep.up ?_
    simp only [impl_Valence.l0]
    refine Ep.pos (by omega) (Ep.pos (by omega) (Ep.pos (by omega) ?_))
    rw [rdE_get hlt, wrap_succ (by omega), wrap_id (x := a + 1) (by omega) (by omega), val_drop hlt]
    refine Ep.ite (fun h => ?_) (fun h => Ep.ite (fun h2 => ?_) (fun h2 => ?_))
    · refine (ih (i + 1) (a + 1) (by omega) (by omega) (by omega)).mono ?_
      rintro _ rfl
      unfold valE
      rw [if_pos (.inl h)]
      omega
    · refine (ih (i + 1) (a + 1) (by omega) (by omega) (by omega)).mono ?_
      rintro _ rfl
      unfold valE
      rw [if_pos (.inr h2)]
      omega
    · refine (ih (i + 1) a (by omega) h0 (by omega)).mono ?_
      rintro _ rfl
      unfold valE
      rw [if_neg (by rintro (x | x); exact h x; exact h2 x)]
      omega
theorem implValence (n : Int) (es : List E) (v : Int) (hl : es.length ≤ 1048576) : Ep (fun k => impl_Valence.f k n es v) (· = valG n es v) := by
  simp only [impl_Valence.f, valG]
  refine Ep.ite (fun h => ?_) (fun h => ?_)
  · refine Ep.up ?_
    simp only [impl_Valence.j0]
    refine Ep.pos trivial (Ep.now ?_)
    rw [if_neg (by omega)]
  · refine Ep.up ?_
    simp only [impl_Valence.j0]
    refine Ep.ite (fun h2 => Ep.now ?_) (fun h2 => ?_)
    · have : v ≥ n := by simpa using h2
      rw [if_neg (by omega)]
    · have : ¬ v ≥ n := by simpa using h2
      refine (implVal_loop v es hl es.length 0 0 (by omega) (by omega) (by omega)).mono ?_
      rintro _ rfl
      rw [if_pos (by omega), List.drop_zero]
      omega
end Go.Proofs.Ytjecgolakaiddaa.Cf
end

section
namespace Go.Proofs.Ytjecgolakaiddaa.Cf
set_option linter.unusedVariables false
set_option linter.unusedSimpArgs false
open Go.RowKit Go.Proofs.YtjecgolakaiddaaW.PrintWords Go.Proofs.Ytjecgolakaiddaa.P
/-- The first unstable vertex, from one on; or -1. -/
def unst (n : Int) (es : List E) (q : Int) (p : List Int) : Nat → Nat → Int
  | 0, _ => -1
  | d + 1, i => if (i : Int) = q then unst n es q p d (i + 1) else if rd p i ≥ valG n es i then i else unst n es q p d (i + 1)
theorem specUnst_l0 (n : Int) (es : List E) (q : Int) (p : List Int) (hel : es.length ≤ 1048576) (hl : p.length ≤ 1048576) : ∀ (d i : Nat), i + d = p.length → Ep (fun k => spec_l10Unstable.l0 k q p (p.length : Int) (i : Int) n es) (· = unst n es q p d i) := by
  intro d
  induction d with
  | zero =>
    intro i hi
    refine Ep.up ?_
    simp only [spec_l10Unstable.l0]
    exact Ep.neg (by omega) (Ep.now rfl)
  | succ d ih =>
    intro i hi
    refine Ep.up ?_
    simp only [spec_l10Unstable.l0]
    refine Ep.pos (by omega) (Ep.pos (by omega) (Ep.pos (by omega) ?_))
    rw [wrap_succ (by omega)]
    unfold unst
    refine Ep.ite (fun h => ?_) (fun h => ?_)
    · rw [if_pos h]
      exact ih (i + 1) (by omega)
    · rw [if_neg h]
      refine Ep.bind (specValence n es i hel) ?_
      rintro _ rfl
      refine Ep.ite (fun h2 => Ep.now ?_) (fun h2 => ?_)
      · rw [if_pos h2]
      · rw [if_neg h2]
        exact ih (i + 1) (by omega)
theorem specUnst (n : Int) (es : List E) (p : List Int) (q : Int) (hel : es.length ≤ 1048576) (hl : p.length ≤ 1048576) : Ep (fun k => spec_l10Unstable.f k n es p q) (· = unst n es q p p.length 0) := by
  have := specUnst_l0 n es q p hel hl p.length 0 (by omega)
  simp only [spec_l10Unstable.f]
  exact this
theorem implUnst_l0 (n : Int) (es : List E) (q : Int) (p : List Int) (hel : es.length ≤ 1048576) (hl : p.length ≤ 1048576) : ∀ (d i : Nat), i + d = p.length → Ep (fun k => impl_unstable.l0 k q p (p.length : Int) (i : Int) n es) (· = unst n es q p d i) := by
  intro d
  induction d with
  | zero =>
    intro i hi
    refine Ep.up ?_
    simp only [impl_unstable.l0]
    exact Ep.neg (by omega) (Ep.now rfl)
  | succ d ih =>
    intro i hi
    refine Ep.up ?_
    simp only [impl_unstable.l0]
    refine Ep.pos (by omega) (Ep.pos (by omega) (Ep.pos (by omega) ?_))
    rw [wrap_succ (by omega)]
    unfold unst
    refine Ep.ite (fun h => ?_) (fun h => ?_)
    · rw [if_pos h]
      exact ih (i + 1) (by omega)
    · rw [if_neg h]
      refine Ep.bind (implValence n es i hel) ?_
      rintro _ rfl
      refine Ep.ite (fun h2 => Ep.now ?_) (fun h2 => ?_)
      · rw [if_pos h2]
      · rw [if_neg h2]
        exact ih (i + 1) (by omega)
theorem implUnst (n : Int) (es : List E) (p : List Int) (q : Int) (hel : es.length ≤ 1048576) (hl : p.length ≤ 1048576) : Ep (fun k => impl_unstable.f k n es p q) (· = unst n es q p p.length 0) := by
  have := implUnst_l0 n es q p hel hl p.length 0 (by omega)
  simp only [impl_unstable.f]
  exact this
/-- A stable configuration. -/
def sOk (n : Int) (es : List E) (p : List Int) (q : Int) : Bool := pOk n es p q && decide (unst n es q p p.length 0 < 0)
theorem specStable (n : Int) (es : List E) (p : List Int) (q : Int) (hel : es.length ≤ 1048576) (hl : p.length ≤ 1048576) : Ep (fun k => spec_IsStable.f k n es p q) (· = sOk n es p q) := by
  simp only [spec_IsStable.f, sOk]
  refine Ep.bind (specPile n es p q hl) ?_
  rintro _ rfl
  refine Ep.ite (fun h => ?_) (fun h => Ep.now ?_)
  · refine Ep.bind (specUnst n es p q hel hl) ?_
    rintro _ rfl
    refine Ep.now ?_
    rw [h]
    rfl
  · have : pOk n es p q = false := by simpa using h
    rw [this]
    rfl
theorem implStable (n : Int) (es : List E) (p : List Int) (q : Int) (hel : es.length ≤ 1048576) (hl : p.length ≤ 1048576) : Ep (fun k => impl_IsStable.f k n es p q) (· = sOk n es p q) := by
  simp only [impl_IsStable.f, sOk]
  refine Ep.bind (implPile n es p q hl) ?_
  rintro _ rfl
  refine Ep.ite (fun h => ?_) (fun h => Ep.now ?_)
  · refine Ep.bind (implUnst n es p q hel hl) ?_
    rintro _ rfl
    refine Ep.now ?_
    rw [h]
    rfl
  · have : pOk n es p q = false := by simpa using h
    rw [this]
    rfl
end Go.Proofs.Ytjecgolakaiddaa.Cf
end

section
namespace Go.Proofs.Ytjecgolakaiddaa.Cf
set_option linter.unusedVariables false
set_option linter.unusedSimpArgs false
theorem sumE_bd {es : List E} {f : E → Int} {S : Int} (h : ∀ e ∈ es, -S ≤ f e ∧ f e ≤ S) : -(es.length * S) ≤ sumE es f ∧ sumE es f ≤ es.length * S := by
  induction es with
  | nil => simp [sumE]
  | cons e r ih =>
    rw [sumE_cons]
    have := ih (fun x hx => h x (List.mem_cons_of_mem _ hx))
    have := h e List.mem_cons_self
    rw [List.length_cons, Int.natCast_succ, Int.add_mul, Int.one_mul]
    omega
theorem lap_bd {n : Int} {es : List E} (hes : ∀ e ∈ es, EOk n e) (hel : es.length ≤ 12) {s : Int → Int} {L S : Int} (hS : 0 ≤ S) (h : ∀ v, 0 ≤ v → v < n → L ≤ s v ∧ s v ≤ L + S) (w : Int) : -(12 * S) ≤ lap es s w ∧ lap es s w ≤ 12 * S := by
  have h1 := sumE_bd (es := es) (f := lapE s w) (S := S) (fun e he => by
    have hk := hes e he
    unfold EOk at hk
    have h0 := h e.f0 (by omega) (by omega)
    have h1 := h e.f1 (by omega) (by omega)
    unfold lapE
    by_cases a : e.f0 = w
    · rw [if_pos a, if_neg (by omega)]; omega
    · rw [if_neg a]
      by_cases b : e.f1 = w
      · rw [if_pos b]; omega
      · rw [if_neg b]; omega)
  have h2 : (es.length : Int) * S ≤ 12 * S := Int.mul_le_mul_of_nonneg_right (by omega) hS
  unfold lap
  omega
theorem sumN_le_const {n : Nat} {f : Nat → Int} {c : Int} (h : ∀ i, i < n → f i ≤ c) : sumN n f ≤ n * c := by
  rw [← sumN_const]
  exact sumN_le h
theorem one_nat (v t : Int) (i : Nat) : one v t (i : Int) = if (i : Int) = v then t else 0 := rfl
theorem sumN_one' {n : Nat} {v : Int} (h0 : 0 ≤ v) (h1 : v < n) (t : Int) : sumN n (fun i => one v t (i : Int)) = t := by
  have := sumN_one (n := n) v.toNat (by omega) t
  refine (sumN_congr fun i _ => ?_).trans this
  rw [one_nat]
  have : ((i : Int) = v) ↔ i = v.toNat := by omega
  simp only [this]
theorem Legal.keeps1 {n : Nat} {es : List E} (hes : ∀ e ∈ es, EOk n e) {q : Int} {p s : Int → Int} (h : Legal n es q p s) : ∀ v : Int, 0 ≤ v → v < n → 0 < s v → 0 ≤ p v - lap es s v := by
  induction h with
  | zero => intro v _ _ h; exact absurd h (by simp)
  | @step s u hl h0 h1 hq hv ih =>
    intro w k0 k1 hs
    rw [lap_add]
    by_cases e : w = u
    · subst e
      rw [lap_one_self hes]
      omega
    · rw [lap_one_ne hes e]
      have := mult_nonneg es u w
      have := ih w k0 k1 (by
        have hs' : 0 < s w + one u 1 w := hs
        unfold one at hs'
        rw [if_neg e] at hs'
        omega)
      omega
theorem Legal.bound1 {n : Nat} {es : List E} (hes : ∀ e ∈ es, EOk n e) (hj : Joined n es) {q : Int} (hq : 0 ≤ q ∧ q < n) {p s : Int → Int} (h : Legal n es q p s) {c : Int} (hc : 0 ≤ c) (hpc : ∀ v : Int, 0 ≤ v → v < n → v ≠ q → p v ≤ c) : ∀ v : Int, 0 ≤ v → v < n → s v ≤ n * (n * c) := by
  refine script_bd hes hj hq hc (by rw [h.nonneg.2]; exact Int.le_refl _) ?_
  intro v h0 h1 hs
  have hne : v ≠ q := by rintro rfl; rw [h.nonneg.2] at hs; omega
  have := h.keeps1 hes v h0 h1 hs
  have := hpc v h0 h1 hne
  omega
theorem sq_le {n : Nat} (hn : n ≤ 6) {c : Int} (hc : 0 ≤ c) : (n : Int) * (n * c) ≤ 36 * c := by
  have h1 : (n : Int) * c ≤ 6 * c := Int.mul_le_mul_of_nonneg_right (by omega) hc
  have h2 : (n : Int) * (n * c) ≤ n * (6 * c) := Int.mul_le_mul_of_nonneg_left h1 (by omega)
  have h3 : (n : Int) * (6 * c) ≤ 6 * (6 * c) := Int.mul_le_mul_of_nonneg_right (by omega) (by omega)
  omega
/-- A legal script of no more than 36 c a vertex: all in all 216 c. -/
theorem Legal.small {n : Nat} (hn : n ≤ 6) {es : List E} (hes : ∀ e ∈ es, EOk n e) (hj : Joined n es) {q : Int} (hq : 0 ≤ q ∧ q < n) {p s : Int → Int} (h : Legal n es q p s) {c : Int} (hc : 0 ≤ c) (hpc : ∀ v : Int, 0 ≤ v → v < n → v ≠ q → p v ≤ c) :
    (∀ v : Int, 0 ≤ v → v < n → 0 ≤ s v ∧ s v ≤ 36 * c) ∧ sumN n (fun i => s (i : Int)) ≤ 216 * c := by
  have h36 := sq_le hn hc
  have hb : ∀ v : Int, 0 ≤ v → v < n → 0 ≤ s v ∧ s v ≤ 36 * c := fun v h0 h1 => by
    have := h.bound1 hes hj hq hc hpc v h0 h1
    have := h.nonneg.1 v
    omega
  refine ⟨hb, ?_⟩
  have h1 := sumN_le_const (n := n) (f := fun i => s (i : Int)) (c := 36 * c) (fun i hi => (hb i (by omega) (by omega)).2)
  have h2 : (n : Int) * (36 * c) ≤ 6 * (36 * c) := Int.mul_le_mul_of_nonneg_right (by omega) (by omega)
  omega
theorem sum_grow {n : Nat} {s : Int → Int} {v : Int} (h0 : 0 ≤ v) (h1 : v < n) (t : Int) : sumN n (fun i => (fun w => s w + one v t w) (i : Int)) = sumN n (fun i => s (i : Int)) + t := by
  rw [sumN_add n (fun i => s (i : Int)) (fun i => one v t (i : Int)), sumN_one' h0 h1]
structure Sets (n : Nat) (es : List E) (q : Int) (d u : Int → Int) : Prop where
  pos : ∀ w, 0 ≤ u w
  at_q : u q = 0
  keeps : ∀ v : Int, 0 ≤ v → v < n → v ≠ q → 0 ≤ d v - lap es u v
theorem Sets.zero {n : Nat} {es : List E} {q : Int} {d : Int → Int} (h : ∀ v : Int, 0 ≤ v → v < n → v ≠ q → 0 ≤ d v) : Sets n es q d (fun _ => 0) where
  pos := fun _ => Int.le_refl _
  at_q := rfl
  keeps := fun v h0 h1 h2 => by
    rw [lap_const (c := 0) (fun _ _ => ⟨rfl, rfl⟩)]
    have := h v h0 h1 h2
    omega
end Go.Proofs.Ytjecgolakaiddaa.Cf
end

section
namespace Go.Proofs.Ytjecgolakaiddaa.Cf
set_option linter.unusedVariables false
set_option linter.unusedSimpArgs false
open Go.Proofs.YtjecgolakaiddaaW.PrintWords
theorem rd_set {x : List Int} {i : Int} (h0 : 0 ≤ i) (h1 : i < x.length) (y : Int) {w : Int} (hw : 0 ≤ w) : rd (x.set i.toNat y) w = if w = i then y else rd x w := by
  obtain ⟨a, rfl⟩ := Int.eq_ofNat_of_zero_le h0
  obtain ⟨b, rfl⟩ := Int.eq_ofNat_of_zero_le hw
  simp only [Int.ofNat_eq_natCast, Int.toNat_natCast, rd_nat, List.getD_eq_getElem?_getD] at *
  by_cases c : b = a
  · subst c
    rw [List.getElem?_set_self (by omega), if_pos rfl]
    rfl
  · rw [List.getElem?_set_ne (fun y => c y.symm), if_neg (by omega)]
/-- A list's numbers lie between -B and B. -/
def Bd (x : List Int) (B : Int) : Prop := ∀ w : Int, 0 ≤ w → w < x.length → -B ≤ rd x w ∧ rd x w ≤ B
theorem Bd.mono {x : List Int} {B B' : Int} (h : Bd x B) (hB : B ≤ B') : Bd x B' := fun w h0 h1 => by have := h w h0 h1; omega
/-- x is d, less what the script s takes over these edges. -/
def Less (es : List E) (d : List Int) (s : Int → Int) (x : List Int) : Prop := x.length = d.length ∧ ∀ w : Int, 0 ≤ w → w < d.length → rd x w = rd d w - lap es s w
theorem lap_snoc (es : List E) (e : E) (s : Int → Int) (w : Int) : lap (es ++ [e]) s w = lap es s w + lapE s w e := by
  induction es with
  | nil => simp [lap, sumE]
  | cons a r ih => rw [List.cons_append, lap_cons, ih, lap_cons]; omega
theorem lap_take {es : List E} {i : Nat} (h : i < es.length) (s : Int → Int) (w : Int) : lap (es.take (i + 1)) s w = lap (es.take i) s w + lapE s w es[i] := by
  rw [List.take_succ_eq_append_getElem h, lap_snoc]
/-- The list c tells s on the first n numbers. -/
def Rep (n : Nat) (c : List Int) (s : Int → Int) : Prop := c.length = n ∧ ∀ w : Int, 0 ≤ w → w < n → rd c w = s w
theorem Rep.ext {n : Nat} {c c' : List Int} {s : Int → Int} (h : Rep n c s) (h' : Rep n c' s) : c = c' := by
  apply List.ext_getElem (by rw [h.1, h'.1])
  intro i h1 h2
  have e := h.2 i (by omega) (by have := h.1; omega)
  have e' := h'.2 i (by omega) (by have := h.1; omega)
  rw [rd_get h1] at e
  rw [rd_get h2] at e'
  rw [e, e']
theorem Rep.congr {n : Nat} {c : List Int} {s t : Int → Int} (h : Rep n c s) (he : ∀ w : Int, 0 ≤ w → w < n → s w = t w) : Rep n c t := ⟨h.1, fun w h0 h1 => (h.2 w h0 h1).trans (he w h0 h1)⟩
theorem Rep.self {n : Nat} {c : List Int} (h : c.length = n) : Rep n c (rd c) := ⟨h, fun _ _ _ => rfl⟩
theorem Rep.set {n : Nat} {c : List Int} {s : Int → Int} (h : Rep n c s) {v : Int} (h0 : 0 ≤ v) (h1 : v < n) (y : Int) : Rep n (c.set v.toNat y) (fun w => if w = v then y else s w) := by
  refine ⟨by rw [List.length_set]; exact h.1, fun w w0 w1 => ?_⟩
  rw [rd_set h0 (by rw [h.1]; exact h1) y w0, h.2 w w0 w1]
theorem rd_replicate (n : Nat) (v : Int) : rd (List.replicate n (0 : Int)) v = 0 := by
  unfold rd
  rw [List.getD_eq_getElem?_getD]
  by_cases h : v.toNat < n
  · rw [List.getElem?_replicate_of_lt h]; rfl
  · rw [List.getElem?_eq_none (by simp; omega)]; rfl
theorem Rep.zero (n : Nat) : Rep n (List.replicate n (0 : Int)) (fun _ => 0) := ⟨by simp, fun w _ _ => rd_replicate n w⟩
/-- The list of a function's first n values. -/
def repL (n : Nat) (f : Int → Int) : List Int := (List.range n).map fun i : Nat => f (i : Int)
theorem repL_len (n : Nat) (f : Int → Int) : (repL n f).length = n := by simp [repL]
theorem repL_rep (n : Nat) (f : Int → Int) : Rep n (repL n f) f := by
  refine ⟨by simp [repL], fun w h0 h1 => ?_⟩
  obtain ⟨a, rfl⟩ := Int.eq_ofNat_of_zero_le h0
  rw [rd_get (by simp [repL]; omega)]
  simp [repL]
theorem Rep.eq {n : Nat} {c : List Int} {s : Int → Int} (h : Rep n c s) : c = repL n s := h.ext (repL_rep n s)
theorem Rep.bd {n : Nat} {c : List Int} {s : Int → Int} {B : Int} (h : Rep n c s) (hb : ∀ w : Int, 0 ≤ w → w < n → -B ≤ s w ∧ s w ≤ B) : Bd c B := fun w h0 h1 => by
  rw [h.2 w h0 (by have := h.1; omega)]
  exact hb w h0 (by have := h.1; omega)
theorem Less.rep {n : Nat} {es : List E} {d x : List Int} {s : Int → Int} (hd : d.length = n) (h : Less es d s x) : Rep n x (fun w => rd d w - lap es s w) := ⟨h.1.trans hd, fun w h0 h1 => h.2 w h0 (by omega)⟩
/-- What toppling off q ends in, and how often each vertex toppled. -/
def Settled (n : Nat) (es : List E) (q : Int) (p : List Int) (r : List Int × List Int) : Prop :=
  ∃ s : Int → Int, Legal n es q (rd p) s ∧ Stable n es q (fun v => rd p v - lap es s v) ∧ Rep n r.1 (fun w => if w = q then 0 else rd p w - lap es s w) ∧ Rep n r.2 s
theorem Settled.unique {n : Nat} {es : List E} {q : Int} {p : List Int} {r r' : List Int × List Int} (h : Settled n es q p r) (h' : Settled n es q p r') : r = r' := by
  obtain ⟨s, h1, h2, h3, h4⟩ := h
  obtain ⟨t, k1, k2, k3, k4⟩ := h'
  obtain rfl := h1.unique k1 h2 k2
  exact Prod.ext (h3.ext k3) (h4.ext k4)
open Classical in
noncomputable def settleS (n : Nat) (es : List E) (q : Int) (p : List Int) : List Int × List Int := if h : ∃ r, Settled n es q p r then Classical.choose h else ([], [])
theorem Settled.eq {n : Nat} {es : List E} {q : Int} {p : List Int} {r : List Int × List Int} (h : Settled n es q p r) : r = settleS n es q p := by
  have he : ∃ r, Settled n es q p r := ⟨r, h⟩
  unfold settleS
  rw [dif_pos he]
  exact h.unique (Classical.choose_spec he)
theorem settleS_len {n : Nat} (es : List E) (q : Int) (p : List Int) (hn : n ≤ 6) : (settleS n es q p).1.length ≤ 6 ∧ (settleS n es q p).2.length ≤ 6 := by
  unfold settleS
  split
  · rename_i he
    obtain ⟨s, _, _, h3, h4⟩ := Classical.choose_spec he
    rw [h3.1, h4.1]
    exact ⟨hn, hn⟩
  · simp
end Go.Proofs.Ytjecgolakaiddaa.Cf
end

section
namespace Go.Proofs.Ytjecgolakaiddaa.Cf
set_option linter.unusedVariables false
set_option linter.unusedSimpArgs false
open Go.Proofs.YtjecgolakaiddaaW.PrintWords
theorem unst_ok (n : Int) (es : List E) (q : Int) (p : List Int) : ∀ (d i : Nat), (unst n es q p d i = -1 ∧ ∀ j : Nat, i ≤ j → j < i + d → (j : Int) ≠ q → rd p (j : Int) < valG n es j) ∨ ((i : Int) ≤ unst n es q p d i ∧ unst n es q p d i < i + d ∧ unst n es q p d i ≠ q ∧ valG n es (unst n es q p d i) ≤ rd p (unst n es q p d i))
  | 0, i => .inl ⟨rfl, fun j h0 h1 => by omega⟩
  | d + 1, i => by
    unfold unst
    have ih := unst_ok n es q p d (i + 1)
    by_cases h : (i : Int) = q
    · rw [if_pos h]
      rcases ih with ⟨h1, h2⟩ | ⟨h1, h2, h3⟩
      · refine .inl ⟨h1, fun j h3 h4 h5 => ?_⟩
        by_cases e : j = i
        · subst e; exact absurd h h5
        · exact h2 j (by omega) (by omega) h5
      · exact .inr ⟨by omega, by omega, h3⟩
    · rw [if_neg h]
      by_cases h2 : rd p i ≥ valG n es i
      · rw [if_pos h2]
        exact .inr ⟨by omega, by omega, h, h2⟩
      · rw [if_neg h2]
        rcases ih with ⟨h1, h3⟩ | ⟨h1, h3, h4⟩
        · refine .inl ⟨h1, fun j k1 k2 k3 => ?_⟩
          by_cases e : j = i
          · subst e; omega
          · exact h3 j (by omega) (by omega) k3
        · exact .inr ⟨by omega, by omega, h4⟩
theorem valG_in {n : Int} {es : List E} {v : Int} (h : 0 ≤ v ∧ v < n) : valG n es v = val es v := by
  unfold valG
  rw [if_pos h]
/-- No vertex is unstable: the configuration is stable. -/
theorem unst_neg {n : Nat} {es : List E} {q : Int} {p : List Int} (hp : p.length = n) (h : unst n es q p p.length 0 < 0) : Stable n es q (rd p) := by
  intro v h0 h1 hv
  rcases unst_ok n es q p p.length 0 with ⟨_, h2⟩ | ⟨h2, _⟩
  · have := h2 v.toNat (by omega) (by omega) (by omega)
    have e : ((v.toNat : Nat) : Int) = v := by omega
    rw [e, valG_in ⟨h0, h1⟩] at this
    exact this
  · omega
theorem unst_pos {n : Nat} {es : List E} {q : Int} {p : List Int} (hp : p.length = n) (h : ¬ unst n es q p p.length 0 < 0) : 0 ≤ unst n es q p p.length 0 ∧ unst n es q p p.length 0 < n ∧ unst n es q p p.length 0 ≠ q ∧ val es (unst n es q p p.length 0) ≤ rd p (unst n es q p p.length 0) := by
  rcases unst_ok n es q p p.length 0 with ⟨h1, _⟩ | ⟨h1, h2, h3, h4⟩
  · omega
  · refine ⟨by omega, by omega, h3, ?_⟩
    rw [valG_in ⟨by omega, by omega⟩] at h4
    exact h4
end Go.Proofs.Ytjecgolakaiddaa.Cf
end

section
namespace Go.Proofs.Ytjecgolakaiddaa.Cf
set_option linter.unusedVariables false
set_option linter.unusedSimpArgs false
open Go.RowKit Go.Proofs.YtjecgolakaiddaaW.PrintWords Go.Proofs.Ytjecgolakaiddaa.P
theorem specFire_l0 (n : Nat) (es : List E) (hes : ∀ e ∈ es, EOk n e) (hel : es.length ≤ 12) (d s : List Int) (hd : d.length = n) (hs : s.length = n) {B K : Int} (hK : 0 ≤ K ∧ 0 ≤ B) (hbd : Bd d B) (hbs : Bd s K) (hB : B + 24 * K ≤ 4611686018427387904) :
    ∀ (k i : Nat) (x : List Int), i + k = es.length → Less (es.take i) d (rd s) x → Bd x (B + 2 * K * i) → Ep (fun r => spec_l04Fire.l0 r s x es (es.length : Int) (i : Int)) (fun r => Less es d (rd s) r ∧ Bd r (B + 24 * K)) := by
  intro k
  induction k with
  | zero =>
    intro i x hi hx hb
    obtain rfl : i = es.length := by omega
    refine Ep.up ?_
    simp only [spec_l04Fire.l0]
    refine Ep.neg (by omega) (Ep.now ⟨?_, hb.mono ?_⟩)
    · rw [List.take_length] at hx
      exact hx
    · have : 2 * K * (es.length : Int) ≤ 2 * K * 12 := Int.mul_le_mul_of_nonneg_left (by omega) (by omega)
      omega
  | succ k ih =>
    intro i x hi hx hb
    have hlt : i < es.length := by omega
    have he := hes _ (List.getElem_mem hlt)
    unfold EOk at he
    have hxl : x.length = n := hx.1.trans hd
    have hi12 : 2 * K * (i : Int) ≤ 2 * K * 12 := Int.mul_le_mul_of_nonneg_left (by omega) (by omega)
    have ba := hb es[i].f0 (by omega) (by omega)
    have bb := hb es[i].f1 (by omega) (by omega)
    have sa := hbs es[i].f0 (by omega) (by omega)
    have sb := hbs es[i].f1 (by omega) (by omega)
    refine Ep.up ?_
    simp only [spec_l04Fire.l0]
    refine Ep.pos (by omega) (Ep.pos (by omega) (Ep.pos (by omega) ?_))
    rw [rdE_get hlt, wrap_succ (by omega)]
    refine Ep.pos (by omega) (Ep.pos (by omega) (Ep.pos (by omega) (Ep.pos (by omega) (Ep.pos (by omega) (Ep.bind0 rfl (Ep.pos (by omega) ?_))))))
    rw [rd_set (x := x) (by omega) (by omega) _ (w := es[i].f1) (by omega), if_neg (by omega), wrap_id (x := rd x es[i].f0 - rd s es[i].f0) (by omega) (by omega), wrap_id (x := rd x es[i].f0 - rd s es[i].f0 + rd s es[i].f1) (by omega) (by omega), wrap_id (x := rd x es[i].f1 - rd s es[i].f1) (by omega) (by omega), wrap_id (x := rd x es[i].f1 - rd s es[i].f1 + rd s es[i].f0) (by omega) (by omega)]
    have key : ∀ w : Int, 0 ≤ w → w < n → rd ((x.set es[i].f0.toNat (rd x es[i].f0 - rd s es[i].f0 + rd s es[i].f1)).set es[i].f1.toNat (rd x es[i].f1 - rd s es[i].f1 + rd s es[i].f0)) w = rd x w - lapE (rd s) w es[i] := by
      intro w h0 h1
      rw [rd_set (by omega) (by rw [List.length_set]; omega) _ h0, rd_set (by omega) (by omega) _ h0]
      unfold lapE
      by_cases c1 : w = es[i].f1
      · rw [if_pos c1, if_neg (by omega), if_pos c1.symm, c1]
        omega
      · rw [if_neg c1]
        by_cases c0 : w = es[i].f0
        · rw [if_pos c0, if_pos c0.symm, if_neg (by omega), c0]
          omega
        · rw [if_neg c0, if_neg (by omega), if_neg (by omega)]
          omega
    refine ih (i + 1) _ (by omega) ⟨by simp [hx.1], ?_⟩ ?_
    · intro w h0 h1
      rw [key w h0 (by omega), hx.2 w h0 h1, lap_take hlt]
      omega
    · intro w h0 h1
      have h1' : w < n := by simpa [hxl] using h1
      rw [key w h0 h1']
      have := hb w h0 (by omega)
      have e : 2 * K * ((i + 1 : Nat) : Int) = 2 * K * (i : Int) + 2 * K := by
        rw [Int.natCast_add, Int.mul_add]
        omega
      rw [e]
      unfold lapE
      split <;> split <;> omega
theorem specFire (n : Nat) (hn : n ≤ 6) (es : List E) (hes : ∀ e ∈ es, EOk n e) (hel : es.length ≤ 12) (d s : List Int) (hd : d.length = n) (hs : s.length = n) {B K : Int} (hK : 0 ≤ K ∧ 0 ≤ B) (hbd : Bd d B) (hbs : Bd s K) (hB : B + 24 * K ≤ 4611686018427387904) :
    Ep (fun r => spec_l04Fire.f r (n : Int) es d s) (fun r => Less es d (rd s) r ∧ Bd r (B + 24 * K)) := by
  simp only [spec_l04Fire.f]
  refine Ep.bind0 rfl (Ep.pos (by simp; omega) ?_)
  refine specFire_l0 n es hes hel d s hd hs hK hbd hbs hB es.length 0 _ (by omega) ⟨rfl, fun w _ _ => ?_⟩ ?_
  · simp [lap, sumE]
  · simpa using hbd
theorem implFire_l0 (n : Nat) (es : List E) (hes : ∀ e ∈ es, EOk n e) (hel : es.length ≤ 12) (d : List Int) (v t : Int) (hd : d.length = n) (hv : 0 ≤ v ∧ v < n) {B K : Int} (hK : 0 ≤ K ∧ 0 ≤ B) (hbd : Bd d B) (ht : -K ≤ t ∧ t ≤ K) (hB : B + 12 * K ≤ 4611686018427387904) :
    ∀ (k i : Nat) (x : List Int), i + k = es.length → Less (es.take i) d (one v t) x → Bd x (B + K * i) → Ep (fun r => impl_fire.l0 r x v t es (es.length : Int) (i : Int)) (fun r => Less es d (one v t) r ∧ Bd r (B + 12 * K)) := by
  intro k
  induction k with
  | zero =>
    intro i x hi hx hb
    obtain rfl : i = es.length := by omega
    refine Ep.up ?_
    simp only [impl_fire.l0]
    refine Ep.neg (by omega) (Ep.now ⟨?_, hb.mono ?_⟩)
    · rw [List.take_length] at hx
      exact hx
    · have : K * (es.length : Int) ≤ K * 12 := Int.mul_le_mul_of_nonneg_left (by omega) (by omega)
      omega
  | succ k ih =>
    intro i x hi hx hb
    have hlt : i < es.length := by omega
    have he := hes _ (List.getElem_mem hlt)
    unfold EOk at he
    have hxl : x.length = n := hx.1.trans hd
    have hi12 : K * (i : Int) ≤ K * 12 := Int.mul_le_mul_of_nonneg_left (by omega) (by omega)
    have ba := hb es[i].f0 (by omega) (by omega)
    have bb := hb es[i].f1 (by omega) (by omega)
    have e1 : K * ((i + 1 : Nat) : Int) = K * (i : Int) + K := by
      rw [Int.natCast_add, Int.mul_add]
      omega
    have fin : ∀ x' : List Int, x'.length = x.length → (∀ w : Int, 0 ≤ w → w < n → rd x' w = rd x w - lapE (one v t) w es[i]) → Ep (fun r => impl_fire.l0 r x' v t es (es.length : Int) ((i + 1 : Nat) : Int)) (fun r => Less es d (one v t) r ∧ Bd r (B + 12 * K)) := by
      intro x' hl' key
      refine ih (i + 1) _ (by omega) ⟨by rw [hl']; exact hx.1, ?_⟩ ?_
      · intro w h0 h1
        rw [key w h0 (by omega), hx.2 w h0 h1, lap_take hlt]
        omega
      · intro w h0 h1
        have h1' : w < n := by omega
        rw [key w h0 h1', e1]
        have := hb w h0 (by omega)
        unfold lapE one
        (repeat' split) <;> omega
    refine Ep.up ?_
    simp only [impl_fire.l0]
    refine Ep.pos (by omega) (Ep.pos (by omega) (Ep.pos (by omega) ?_))
    rw [rdE_get hlt, wrap_succ (by omega)]
    refine Ep.ite (fun c => ?_) (fun c => Ep.ite (fun c2 => ?_) (fun c2 => ?_))
    · subst c
      refine Ep.pos (by omega) (Ep.pos (by omega) (Ep.bind0 rfl (Ep.pos (by omega) (Ep.pos (by omega) ?_))))
      rw [rd_set (x := x) (by omega) (by omega) _ (w := es[i].f1) (by omega), if_neg (by omega), wrap_id (x := rd x es[i].f0 - t) (by omega) (by omega), wrap_id (x := rd x es[i].f1 + t) (by omega) (by omega)]
      refine fin _ (by simp) ?_
      intro w h0 h1
      rw [rd_set (by omega) (by rw [List.length_set]; omega) _ h0, rd_set (by omega) (by omega) _ h0]
      unfold lapE one
      by_cases c1 : w = es[i].f1
      · subst c1; (repeat' split) <;> omega
      · by_cases c0 : w = es[i].f0
        · subst c0; (repeat' split) <;> omega
        · (repeat' split) <;> omega
    · subst c2
      refine Ep.pos (by omega) (Ep.pos (by omega) (Ep.bind0 rfl (Ep.pos (by omega) (Ep.pos (by omega) ?_))))
      rw [rd_set (x := x) (by omega) (by omega) _ (w := es[i].f0) (by omega), if_neg (by omega), wrap_id (x := rd x es[i].f1 - t) (by omega) (by omega), wrap_id (x := rd x es[i].f0 + t) (by omega) (by omega)]
      refine fin _ (by simp) ?_
      intro w h0 h1
      rw [rd_set (by omega) (by rw [List.length_set]; omega) _ h0, rd_set (by omega) (by omega) _ h0]
      unfold lapE one
      by_cases c1 : w = es[i].f1
      · subst c1; (repeat' split) <;> omega
      · by_cases c0 : w = es[i].f0
        · subst c0; (repeat' split) <;> omega
        · (repeat' split) <;> omega
    · refine fin x rfl ?_
      intro w h0 h1
      unfold lapE one
      (repeat' split) <;> omega
theorem implFire (n : Nat) (es : List E) (hes : ∀ e ∈ es, EOk n e) (hel : es.length ≤ 12) (d : List Int) (v t : Int) (hd : d.length = n) (hv : 0 ≤ v ∧ v < n) {B K : Int} (hK : 0 ≤ K ∧ 0 ≤ B) (hbd : Bd d B) (ht : -K ≤ t ∧ t ≤ K) (hB : B + 12 * K ≤ 4611686018427387904) :
    Ep (fun r => impl_fire.f r (n : Int) es d v t) (fun r => Less es d (one v t) r ∧ Bd r (B + 12 * K)) := by
  simp only [impl_fire.f]
  refine implFire_l0 n es hes hel d v t hd hv hK hbd ht hB es.length 0 _ (by omega) ⟨rfl, fun w _ _ => ?_⟩ ?_
  · simp [lap, sumE]
  · simpa using hbd
end Go.Proofs.Ytjecgolakaiddaa.Cf
end

section
namespace Go.Proofs.Ytjecgolakaiddaa.P
open Go.RowKit Go.Proofs.YtjecgolakaiddaaW.PrintWords Go.Proofs.YtjecgolakaiddaaW.PrintLast Go.Proofs.YtjecgolakaiddaaW.PrintMore
attribute [local go_sem] max2_int min2_int max_two min_two max_three min_three max_four min_four
set_option linter.unusedVariables false
set_option linter.unusedSimpArgs false
mutual
def spec_RotorsOk.j0 : Nat → List Int → Int → Bool → Int → List (S70) → Option (Bool)
  | 0, _, _, _, _, _ => none
  | k + 1, x1, x2, x33, x102000, x102001 => if x33 = true then (some false) else (spec_RotorsOk.l0 k x2 x1 (x1.length : Int) 0 x102000 x102001)
def spec_RotorsOk.l0 : Nat → Int → List Int → Int → Int → Int → List (S70) → Option (Bool)
  | 0, _, _, _, _, _, _ => none
  | k + 1, x2, x34, x35, x36, x102000, x102001 => if x36 < x35 then (if 0 ≤ x36 then (if x36 < (x34.length : Int) then (if x36 = x2 then (spec_RotorsOk.l0 k x2 x34 x35 (wrap64 (x36 + 1)) x102000 x102001) else ((spec_l01In.f (rd x34 x36) 0 (wrap64 ((x102001.length : Int) - 1))).bind fun t106 => (if t106 = true then (if 0 ≤ (rd x34 x36) then (if (rd x34 x36) < (x102001.length : Int) then (if ((rd_T70 x102001 (rd x34 x36)).f0) = x36 then (spec_RotorsOk.l0 k x2 x34 x35 (wrap64 (x36 + 1)) x102000 x102001) else (if ((rd_T70 x102001 (rd x34 x36)).f1) = x36 then (spec_RotorsOk.l0 k x2 x34 x35 (wrap64 (x36 + 1)) x102000 x102001) else (some false))) else (none)) else (none)) else (some false)))) else (none)) else (none)) else (some true)
end
def spec_RotorsOk.f (k : Nat) (a0_0 : Int) (l0_1 : List (S70)) (l1 : List Int) (a2 : Int) : Option (Bool) := (spec_GraphOk.f k a0_0 l0_1).bind fun t102 => (if t102 = true then ((spec_l01In.f a2 0 (wrap64 (a0_0 - 1))).bind fun t103 => (if t103 = true then (if (l1.length : Int) = a0_0 then (if 0 ≤ a2 then (if a2 < (l1.length : Int) then (spec_RotorsOk.j0 k l1 a2 ((rd l1 a2) != (-1)) a0_0 l0_1) else (none)) else (none)) else (spec_RotorsOk.j0 k l1 a2 true a0_0 l0_1)) else (spec_RotorsOk.j0 k l1 a2 true a0_0 l0_1))) else (spec_RotorsOk.j0 k l1 a2 true a0_0 l0_1))
theorem spec_RotorsOk.mono_l : ∀ k, (∀ y0 y1 y2 y3 y4, LeO (spec_RotorsOk.j0 k y0 y1 y2 y3 y4) (spec_RotorsOk.j0 (k + 1) y0 y1 y2 y3 y4)) ∧ (∀ y0 y1 y2 y3 y4 y5, LeO (spec_RotorsOk.l0 k y0 y1 y2 y3 y4 y5) (spec_RotorsOk.l0 (k + 1) y0 y1 y2 y3 y4 y5))
  | 0 => ⟨fun _ _ _ _ _ r h => by simp [spec_RotorsOk.j0] at h, fun _ _ _ _ _ _ r h => by simp [spec_RotorsOk.l0] at h⟩
  | k + 1 => by
    obtain ⟨ih0, ih1⟩ := spec_RotorsOk.mono_l k
    refine ⟨?_, ?_⟩
    · intro y0 y1 y2 y3 y4
      unfold spec_RotorsOk.j0
      repeat' first
      | (with_reducible exact ih0 _ _ _ _ _)
      | (with_reducible exact ih1 _ _ _ _ _ _)
      | (with_reducible exact spec_GraphOk.mono _ _ _)
      | (with_reducible exact LeO.refl _)
      | (with_reducible exact LeO.none _)
      | (with_reducible refine LeO.ite ?_ ?_)
      | (with_reducible refine LeO.bind ?_ (fun _ => ?_))
      | exact ih0 _ _ _ _ _
      | exact ih1 _ _ _ _ _ _
      | exact spec_GraphOk.mono _ _ _
      | exact LeO.none _
      | refine LeO.ite ?_ ?_
      | refine LeO.bind ?_ (fun _ => ?_)
    · intro y0 y1 y2 y3 y4 y5
      unfold spec_RotorsOk.l0
      repeat' first
      | (with_reducible exact ih0 _ _ _ _ _)
      | (with_reducible exact ih1 _ _ _ _ _ _)
      | (with_reducible exact spec_GraphOk.mono _ _ _)
      | (with_reducible exact LeO.refl _)
      | (with_reducible exact LeO.none _)
      | (with_reducible refine LeO.ite ?_ ?_)
      | (with_reducible refine LeO.bind ?_ (fun _ => ?_))
      | exact ih0 _ _ _ _ _
      | exact ih1 _ _ _ _ _ _
      | exact spec_GraphOk.mono _ _ _
      | exact LeO.none _
      | refine LeO.ite ?_ ?_
      | refine LeO.bind ?_ (fun _ => ?_)
theorem spec_RotorsOk.mono : ∀ a0 a1 a2 a3 k, LeO (spec_RotorsOk.f k a0 a1 a2 a3) (spec_RotorsOk.f (k + 1) a0 a1 a2 a3) := by
  intro a0 a1 a2 a3 k; obtain ⟨ih0, ih1⟩ := spec_RotorsOk.mono_l k; unfold spec_RotorsOk.f
  repeat' first
      | (with_reducible exact ih0 _ _ _ _ _)
      | (with_reducible exact ih1 _ _ _ _ _ _)
      | (with_reducible exact spec_GraphOk.mono _ _ _)
      | (with_reducible exact LeO.refl _)
      | (with_reducible exact LeO.none _)
      | (with_reducible refine LeO.ite ?_ ?_)
      | (with_reducible refine LeO.bind ?_ (fun _ => ?_))
      | exact ih0 _ _ _ _ _
      | exact ih1 _ _ _ _ _ _
      | exact spec_GraphOk.mono _ _ _
      | exact LeO.none _
      | refine LeO.ite ?_ ?_
      | refine LeO.bind ?_ (fun _ => ?_)
end Go.Proofs.Ytjecgolakaiddaa.P
end

section
namespace Go.Proofs.Ytjecgolakaiddaa.P
open Go.RowKit Go.Proofs.YtjecgolakaiddaaW.PrintWords Go.Proofs.YtjecgolakaiddaaW.PrintLast Go.Proofs.YtjecgolakaiddaaW.PrintMore
attribute [local go_sem] max2_int min2_int max_two min_two max_three min_three max_four min_four
set_option linter.unusedVariables false
set_option linter.unusedSimpArgs false
mutual
def impl_RotorsOk.j0 : Nat → List Int → Int → Bool → Int → List (S70) → Option (Bool)
  | 0, _, _, _, _, _ => none
  | k + 1, x1, x2, x26, x102000, x102001 => if x26 = true then (some false) else (impl_RotorsOk.l0 k x2 x1 (x1.length : Int) 0 x102000 x102001)
def impl_RotorsOk.l0 : Nat → Int → List Int → Int → Int → Int → List (S70) → Option (Bool)
  | 0, _, _, _, _, _, _ => none
  | k + 1, x2, x27, x28, x29, x102000, x102001 => if x29 < x28 then (if 0 ≤ x29 then (if x29 < (x27.length : Int) then (if x29 = x2 then (impl_RotorsOk.l0 k x2 x27 x28 (wrap64 (x29 + 1)) x102000 x102001) else ((impl_isAt.f x102000 x102001 (rd x27 x29) x29).bind fun t105 => (if t105 = true then (impl_RotorsOk.l0 k x2 x27 x28 (wrap64 (x29 + 1)) x102000 x102001) else (some false)))) else (none)) else (none)) else (some true)
end
def impl_RotorsOk.f (k : Nat) (a0_0 : Int) (l0_1 : List (S70)) (l1 : List Int) (a2 : Int) : Option (Bool) := (impl_isVertex.f a0_0 l0_1 a2).bind fun t102 => (if t102 = true then (if (l1.length : Int) = a0_0 then (if 0 ≤ a2 then (if a2 < (l1.length : Int) then (impl_RotorsOk.j0 k l1 a2 ((rd l1 a2) != (-1)) a0_0 l0_1) else (none)) else (none)) else (impl_RotorsOk.j0 k l1 a2 true a0_0 l0_1)) else (impl_RotorsOk.j0 k l1 a2 true a0_0 l0_1))
theorem impl_RotorsOk.mono_l : ∀ k, (∀ y0 y1 y2 y3 y4, LeO (impl_RotorsOk.j0 k y0 y1 y2 y3 y4) (impl_RotorsOk.j0 (k + 1) y0 y1 y2 y3 y4)) ∧ (∀ y0 y1 y2 y3 y4 y5, LeO (impl_RotorsOk.l0 k y0 y1 y2 y3 y4 y5) (impl_RotorsOk.l0 (k + 1) y0 y1 y2 y3 y4 y5))
  | 0 => ⟨fun _ _ _ _ _ r h => by simp [impl_RotorsOk.j0] at h, fun _ _ _ _ _ _ r h => by simp [impl_RotorsOk.l0] at h⟩
  | k + 1 => by
    obtain ⟨ih0, ih1⟩ := impl_RotorsOk.mono_l k
    refine ⟨?_, ?_⟩
    · intro y0 y1 y2 y3 y4
      unfold impl_RotorsOk.j0
      repeat' first
      | (with_reducible exact ih0 _ _ _ _ _)
      | (with_reducible exact ih1 _ _ _ _ _ _)
      | (with_reducible exact LeO.refl _)
      | (with_reducible exact LeO.none _)
      | (with_reducible refine LeO.ite ?_ ?_)
      | (with_reducible refine LeO.bind ?_ (fun _ => ?_))
      | exact ih0 _ _ _ _ _
      | exact ih1 _ _ _ _ _ _
      | exact LeO.none _
      | refine LeO.ite ?_ ?_
      | refine LeO.bind ?_ (fun _ => ?_)
    · intro y0 y1 y2 y3 y4 y5
      unfold impl_RotorsOk.l0
      repeat' first
      | (with_reducible exact ih0 _ _ _ _ _)
      | (with_reducible exact ih1 _ _ _ _ _ _)
      | (with_reducible exact LeO.refl _)
      | (with_reducible exact LeO.none _)
      | (with_reducible refine LeO.ite ?_ ?_)
      | (with_reducible refine LeO.bind ?_ (fun _ => ?_))
      | exact ih0 _ _ _ _ _
      | exact ih1 _ _ _ _ _ _
      | exact LeO.none _
      | refine LeO.ite ?_ ?_
      | refine LeO.bind ?_ (fun _ => ?_)
theorem impl_RotorsOk.mono : ∀ a0 a1 a2 a3 k, LeO (impl_RotorsOk.f k a0 a1 a2 a3) (impl_RotorsOk.f (k + 1) a0 a1 a2 a3) := by
  intro a0 a1 a2 a3 k; obtain ⟨ih0, ih1⟩ := impl_RotorsOk.mono_l k; unfold impl_RotorsOk.f
  repeat' first
      | (with_reducible exact ih0 _ _ _ _ _)
      | (with_reducible exact ih1 _ _ _ _ _ _)
      | (with_reducible exact LeO.refl _)
      | (with_reducible exact LeO.none _)
      | (with_reducible refine LeO.ite ?_ ?_)
      | (with_reducible refine LeO.bind ?_ (fun _ => ?_))
      | exact ih0 _ _ _ _ _
      | exact ih1 _ _ _ _ _ _
      | exact LeO.none _
      | refine LeO.ite ?_ ?_
      | refine LeO.bind ?_ (fun _ => ?_)
end Go.Proofs.Ytjecgolakaiddaa.P
end

section
namespace Go.Proofs.Ytjecgolakaiddaa.P
open Go.RowKit Go.Proofs.YtjecgolakaiddaaW.PrintWords Go.Proofs.YtjecgolakaiddaaW.PrintLast Go.Proofs.YtjecgolakaiddaaW.PrintMore
attribute [local go_sem] max2_int min2_int max_two min_two max_three min_three max_four min_four
set_option linter.unusedVariables false
set_option linter.unusedSimpArgs false
def spec_l15Next.l0 : Nat → Int → Int → Int → Int → Int → List (S70) → Option (Int)
  | 0, _, _, _, _, _, _ => none
  | k + 1, x1, x2, x7, x8, x102000, x102001 => if x8 < x7 then (if x7 = 0 then (none) else (if 0 ≤ (Int.tmod (wrap64 (x2 + x8)) x7) then (if (Int.tmod (wrap64 (x2 + x8)) x7) < (x102001.length : Int) then (if ((rd_T70 x102001 (Int.tmod (wrap64 (x2 + x8)) x7)).f0) = x1 then (some (Int.tmod (wrap64 (x2 + x8)) x7)) else (if ((rd_T70 x102001 (Int.tmod (wrap64 (x2 + x8)) x7)).f1) = x1 then (some (Int.tmod (wrap64 (x2 + x8)) x7)) else (spec_l15Next.l0 k x1 x2 x7 (wrap64 (x8 + 1)) x102000 x102001))) else (none)) else (none))) else (some x2)
def spec_l15Next.f (k : Nat) (a0_0 : Int) (l0_1 : List (S70)) (a1 : Int) (a2 : Int) : Option (Int) := spec_l15Next.l0 k a1 a2 (l0_1.length : Int) 1 a0_0 l0_1
theorem spec_l15Next.mono_l : ∀ k, (∀ y0 y1 y2 y3 y4 y5, LeO (spec_l15Next.l0 k y0 y1 y2 y3 y4 y5) (spec_l15Next.l0 (k + 1) y0 y1 y2 y3 y4 y5))
  | 0 => fun _ _ _ _ _ _ r h => by simp [spec_l15Next.l0] at h
  | k + 1 => by
    have ih0 := spec_l15Next.mono_l k
    · intro y0 y1 y2 y3 y4 y5
      unfold spec_l15Next.l0
      repeat' first
      | (with_reducible exact ih0 _ _ _ _ _ _)
      | (with_reducible exact LeO.refl _)
      | (with_reducible exact LeO.none _)
      | (with_reducible refine LeO.ite ?_ ?_)
      | (with_reducible refine LeO.bind ?_ (fun _ => ?_))
      | exact ih0 _ _ _ _ _ _
      | exact LeO.none _
      | refine LeO.ite ?_ ?_
      | refine LeO.bind ?_ (fun _ => ?_)
theorem spec_l15Next.mono : ∀ a0 a1 a2 a3 k, LeO (spec_l15Next.f k a0 a1 a2 a3) (spec_l15Next.f (k + 1) a0 a1 a2 a3) := by
  intro a0 a1 a2 a3 k; have ih0 := spec_l15Next.mono_l k; unfold spec_l15Next.f
  repeat' first
      | (with_reducible exact ih0 _ _ _ _ _ _)
      | (with_reducible exact LeO.refl _)
      | (with_reducible exact LeO.none _)
      | (with_reducible refine LeO.ite ?_ ?_)
      | (with_reducible refine LeO.bind ?_ (fun _ => ?_))
      | exact ih0 _ _ _ _ _ _
      | exact LeO.none _
      | refine LeO.ite ?_ ?_
      | refine LeO.bind ?_ (fun _ => ?_)
end Go.Proofs.Ytjecgolakaiddaa.P
end

