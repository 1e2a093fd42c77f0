/- A part of the proof of FnExactIsCyclic. -/
import Derived.Test.YtkcbinohpdhbgaaBFnExactIsCyclic2
import Derived.Test.YtkcbinohpdhbgaaBFnExactIsCyclic1
import Derived.Test.YtkcbinohpdhbgaaBFnExactIsCyclic0
import Derived.Deep.Slices
import Derived.Lib.SmallJoins
import Derived.ChangeSame
import Derived.Test.YtkcbinohpdhbgaaRows
import Derived.JoinedOf
import Derived.KernelRfl
section
namespace Go.Proofs.Ytkcbinohpdhbgaa.Cf
set_option linter.unusedVariables false
set_option linter.unusedSimpArgs false
open Go.RowKit Go.Proofs.YtkcbinohpdhbgaaW.PrintWords Go.Proofs.Ytkcbinohpdhbgaa.P
theorem gcdF_two (l l' : List Int) (a : Nat) : gcdF (l ++ l') a = gcdF l' (gcdF l a) := by
  unfold gcdF
  rw [List.foldl_append]
/-- All minors of a size, rows by rows. -/
def minS (M : List (List Int)) (S : List (List Int)) (i : Nat) : List Int := (S.take i).flatMap fun r => S.map fun c => detL M r c
theorem minS_succ (M : List (List Int)) {S : List (List Int)} {i : Nat} {r : List Int} (h : S[i]? = some r) : minS M S (i + 1) = minS M S i ++ S.map fun c => detL M r c := by
  unfold minS
  rw [List.take_add_one, h, List.flatMap_append]
  simp
theorem minS_gcd {m k : Nat} (hm : m ≤ 5) (M : List (List Int)) : gcdF (minS M (setsN m k) (setsN m k).length) 0 = gK m M k := by
  unfold gK gOf
  refine gcdF_same fun x => ?_
  unfold minS mins
  rw [List.take_length, List.mem_flatMap]
  constructor
  · rintro ⟨r, hr, hx⟩
    obtain ⟨c, hc, rfl⟩ := List.mem_map.1 hx
    have ir := sets_inc.1 hr
    have ic := sets_inc.1 hc
    obtain ⟨a, ha, rfl⟩ := inc_bits hm ir
    obtain ⟨b, hb, rfl⟩ := inc_bits hm ic
    refine List.mem_map.2 ⟨(a, b), List.mem_filter.2 ⟨prs_mem.2 (Or.inl ⟨ha, hb⟩), ?_⟩, rfl⟩
    simp [ir.1, ic.1]
  · intro hx
    obtain ⟨⟨a, b⟩, hp, rfl⟩ := List.mem_map.1 hx
    rw [List.mem_filter] at hp
    have hab := prs_mem.1 hp.1
    have hs := hp.2
    simp only [Bool.and_eq_true, beq_iff_eq] at hs
    have h1 := (bitsL_inc hm (a := a) (by omega)).1
    have h2 := (bitsL_inc hm (a := b) (by omega)).1
    rw [hs.1] at h1
    rw [hs.2] at h2
    exact ⟨_, sets_inc.2 h1, List.mem_map.2 ⟨_, sets_inc.2 h2, rfl⟩⟩
theorem inc_bd {m k : Nat} {s : List Int} (h : s ∈ setsN m k) : s.length = k ∧ ∀ x ∈ s, 0 ≤ x ∧ x < (m : Int) := setsN_ok h
theorem specInv_l2 {m : Nat} (hm : m ≤ 5) {M : List (List Int)} (hM : SqOk m M) {k : Nat} (hk : k ≤ m) {out : List Int} {bf : Int} {i g : Nat} (hg : g ≤ 1934917632) {r : List Int} (hr : r ∈ setsN m k) {Q : List Int → Prop}
    (hn : ∀ g' : Nat, g' ≤ 1934917632 → g' = gcdF ((setsN m k).map fun c => detL M r c) g → Ep (fun f => spec_InvariantFactors.l1 f M out bf (k : Int) (g' : Int) (setsN m k) (setsN m k) ((setsN m k).length : Int) ((i + 1 : Nat) : Int)) Q) (hi : i < (setsN m k).length) :
    ∀ (d j g' : Nat), j + d = (setsN m k).length → g' ≤ 1934917632 → g' = gcdF (((setsN m k).take j).map fun c => detL M r c) g → Ep (fun f => spec_InvariantFactors.l2 f M out bf (k : Int) (g' : Int) (setsN m k) r (setsN m k) ((setsN m k).length : Int) (i : Int) (setsN m k) ((setsN m k).length : Int) (j : Int)) Q := by
  have hrb := inc_bd hr
  have hS := setsN_len6 (n := m) (by omega) (k := k) (by omega)
  intro d
  induction d with
  | zero =>
    intro j g' hj hg' he
    refine Ep.up ?_
    simp only [spec_InvariantFactors.l2]
    refine Ep.neg (by omega) ?_
    rw [wrap_succ (by omega)]
    rw [List.take_of_length_le (by omega)] at he
    exact hn g' hg' he
  | succ d ih =>
    intro j g' hj hg' he
    have hlt : j < (setsN m k).length := by omega
    have hcj := inc_bd (List.getElem_mem hlt)
    have ec : rd_L3 (setsN m k) (j : Int) = (setsN m k)[j] := by
      unfold rd_L3
      rw [Int.toNat_natCast, List.getD_eq_getElem?_getD, List.getElem?_eq_getElem hlt]
      rfl
    have hdb := det_bd hM (rs := r) (cs := (setsN m k)[j]) (by omega) (by omega)
    refine Ep.up ?_
    simp only [spec_InvariantFactors.l2]
    refine Ep.pos (by omega) (Ep.pos (by omega) (Ep.pos (by omega) ?_))
    rw [ec, wrap_succ (by omega)]
    refine Ep.bind (specDet hm hM r (by omega) hrb.2 _ (by omega) hcj.2) ?_
    rintro _ rfl
    refine Ep.bind (specGcd (by omega) (by omega)) ?_
    rintro _ rfl
    rw [Int.natAbs_natCast]
    refine ih (j + 1) _ (by omega) ?_ ?_
    · by_cases c : g' = 0
      · rw [c, Nat.gcd_zero_left]; omega
      · exact Nat.le_trans (Nat.gcd_le_left _ (by omega)) hg'
    · rw [List.take_succ_eq_append_getElem hlt, List.map_append, gcdF_two, ← he]
      rfl
theorem specInv_l1 {m : Nat} (hm : m ≤ 5) {M : List (List Int)} (hM : SqOk m M) {k : Nat} (hk : k + 1 ≤ m)
    (hn : Ep (fun f => spec_InvariantFactors.l0 f M ((invL m M).take (k + 1)) ((gK m M (k + 1) : Nat) : Int) ((k + 1 + 1 : Nat) : Int)) (· = invL m M)) :
    ∀ (d i g : Nat), i + d = (setsN m (k + 1)).length → g ≤ 1934917632 → g = gcdF (minS M (setsN m (k + 1)) i) 0 → Ep (fun f => spec_InvariantFactors.l1 f M ((invL m M).take k) ((gK m M k : Nat) : Int) ((k + 1 : Nat) : Int) (g : Int) (setsN m (k + 1)) (setsN m (k + 1)) ((setsN m (k + 1)).length : Int) (i : Int)) (· = invL m M) := by
  have hS := setsN_len6 (n := m) (by omega) (k := k + 1) (by omega)
  intro d
  induction d with
  | zero =>
    intro i g hi hg he
    have htl : ((invL m M).take k).length ≤ 5 := by rw [List.length_take]; simp [invL]; omega
    rw [show i = (setsN m (k + 1)).length by omega, minS_gcd hm] at he
    refine Ep.up ?_
    simp only [spec_InvariantFactors.l1]
    rw [wrap_succ (by omega)]
    rw [invL_take m M (by omega)] at hn
    unfold invF at hn
    refine Ep.neg (by omega) ?_
    by_cases c0 : gK m M k = 0
    · have c1 := gK_next hm M c0
      rw [if_pos c1, c1] at hn
      exact Ep.pos (by omega) (Ep.pos (by omega) hn)
    · by_cases c1 : gK m M (k + 1) = 0
      · rw [if_pos c1, c1] at hn
        exact Ep.neg (by omega) (Ep.pos (by omega) (Ep.pos (by omega) hn))
      · rw [if_neg c1] at hn
        have hb := gK_le hm hM (k + 1)
        have hd : gK m M (k + 1) / gK m M k ≤ gK m M (k + 1) := Nat.div_le_self _ _
        have e : wrap64 (Int.tdiv (g : Int) ((gK m M k : Nat) : Int)) = ((gK m M (k + 1) / gK m M k : Nat) : Int) := by
          rw [he]
          have e' : Int.tdiv ((gK m M (k + 1) : Nat) : Int) ((gK m M k : Nat) : Int) = ((gK m M (k + 1) / gK m M k : Nat) : Int) := rfl
          rw [e']
          generalize gK m M (k + 1) / gK m M k = z at hd ⊢
          exact wrap_id (by omega) (by omega)
        refine Ep.neg (by omega) (Ep.neg (by omega) (Ep.pos (by omega) ?_))
        rw [e, he]
        exact hn
  | succ d ih =>
    intro i g hi hg he
    have hlt : i < (setsN m (k + 1)).length := by omega
    have er : rd_L3 (setsN m (k + 1)) (i : Int) = (setsN m (k + 1))[i] := by
      unfold rd_L3
      rw [Int.toNat_natCast, List.getD_eq_getElem?_getD, List.getElem?_eq_getElem hlt]
      rfl
    refine Ep.up ?_
    simp only [spec_InvariantFactors.l1]
    refine Ep.pos (by omega) (Ep.pos (by omega) (Ep.pos (by omega) ?_))
    rw [er]
    refine specInv_l2 hm hM hk hg (List.getElem_mem hlt) (fun g' hg' he' => ?_) hlt (setsN m (k + 1)).length 0 g (by omega) hg rfl
    refine ih (i + 1) g' (by omega) hg' ?_
    rw [minS_succ M (List.getElem?_eq_getElem hlt), gcdF_two, ← he]
    exact he'
theorem specInv_l0 {m : Nat} (hm : m ≤ 5) {M : List (List Int)} (hM : SqOk m M) : ∀ (d k : Nat), k + d = m → Ep (fun f => spec_InvariantFactors.l0 f M ((invL m M).take k) ((gK m M k : Nat) : Int) ((k + 1 : Nat) : Int)) (· = invL m M) := by
  have hM1 := hM.1
  intro d
  induction d with
  | zero =>
    intro k hk
    refine Ep.up ?_
    simp only [spec_InvariantFactors.l0]
    refine Ep.neg (by omega) (Ep.now ?_)
    rw [List.take_of_length_le (by simp [invL]; omega)]
  | succ d ih =>
    intro k hk
    have h := ih (k + 1) (by omega)
    refine Ep.up ?_
    simp only [spec_InvariantFactors.l0]
    refine Ep.pos (by omega) (Ep.bind0 (a := setsN m (k + 1)) ?_ ?_)
    · unfold spec_l03Sets.f
      rw [if_pos (by omega), hM1, Int.toNat_natCast, Int.toNat_natCast]
    · exact specInv_l1 hm hM (by omega) h (setsN m (k + 1)).length 0 0 (by omega) (by omega) rfl
theorem gK_0 {m : Nat} (hm : m ≤ 5) (M : List (List Int)) : gK m M 0 = 1 := by
  have h := minS_gcd (k := 0) hm M
  rw [← h]
  simp [setsN, minS, gcdF, detL]
theorem specInvariant {m : Nat} (hm : m ≤ 5) {M : List (List Int)} (hM : SqOk m M) : Ep (fun k => spec_InvariantFactors.f k M) (· = invL m M) := by
  simp only [spec_InvariantFactors.f]
  refine Ep.bind (specMatrixOk hm hM) ?_
  rintro _ rfl
  refine Ep.pos rfl ?_
  have h := specInv_l0 hm hM m 0 (by omega)
  rw [gK_0 hm] at h
  exact h
theorem specGF_l0 (L : List Int) (hL : L.length ≤ 100) : ∀ (d i : Nat), i + d = L.length → Ep (fun k => spec_GroupFactors.l0 k (factL (L.take i)) L (L.length : Int) (i : Int)) (· = factL L) := by
  intro d
  induction d with
  | zero =>
    intro i hi
    refine Ep.up ?_
    simp only [spec_GroupFactors.l0]
    refine Ep.neg (by omega) (Ep.now ?_)
    rw [List.take_of_length_le (by omega)]
  | succ d ih =>
    intro i hi
    have h := ih (i + 1) (by omega)
    have hlt : i < L.length := by omega
    have e : rd L (i : Int) = L[i] := by
      unfold rd
      rw [Int.toNat_natCast, List.getD_eq_getElem?_getD, List.getElem?_eq_getElem hlt]
      rfl
    have hl : (factL (L.take i)).length ≤ 100 := Nat.le_trans (List.length_filter_le _ _) (by rw [List.length_take]; omega)
    unfold factL at h
    rw [List.take_succ_eq_append_getElem hlt, List.filter_append] at h
    refine Ep.up ?_
    simp only [spec_GroupFactors.l0]
    refine Ep.pos (by omega) (Ep.pos (by omega) (Ep.pos (by omega) ?_))
    rw [e, wrap_succ (by omega)]
    by_cases c : L[i] > 1
    · rw [List.filter_cons_of_pos (by simpa using c)] at h
      exact Ep.pos c (Ep.pos (by omega) h)
    · rw [List.filter_cons_of_neg (by simpa using c), List.filter_nil, List.append_nil] at h
      exact Ep.neg c h
def gfO (n : Int) (es : List E) : List Int := if gOk n es = true then factL (invL (n.toNat - 1) (redM n.toNat es 0)) else []
theorem specGF (n : Int) (es : List E) : Ep (fun k => spec_GroupFactors.f k n es) (· = gfO n es) := by
  simp only [spec_GroupFactors.f]
  refine Ep.bind (specGraph _ _) ?_
  rintro _ rfl
  unfold gfO
  by_cases c : gOk n es = true
  · have hg := gOk_iff.1 c
    have hG := hg.1
    unfold EsOk at hG
    rw [if_pos c]
    refine Ep.pos c ?_
    obtain ⟨m, rfl⟩ := Int.eq_ofNat_of_zero_le (show 0 ≤ n by omega)
    rw [Int.toNat_natCast]
    refine Ep.bind (specRL hg (q := 0) (by omega)) ?_
    rintro _ rfl
    refine Ep.bind (specInvariant (by omega) (redM_sq (q := 0) (by omega) hG.2.2.1)) ?_
    rintro _ rfl
    exact specGF_l0 (invL (m - 1) (redM m es 0)) (by simp [invL]; omega) (invL (m - 1) (redM m es 0)).length 0 (by omega)
  · rw [if_neg c]
    exact Ep.neg c (Ep.now rfl)
theorem implGF (n : Int) (es : List E) : Ep (fun k => impl_GroupFactors.f k n es) (· = gfO n es) := by
  unfold gfO
  by_cases c : gOk n es = true
  · have hg := gOk_iff.1 c
    have hG := hg.1
    unfold EsOk at hG
    rw [if_pos c]
    obtain ⟨m, rfl⟩ := Int.eq_ofNat_of_zero_le (show 0 ≤ n by omega)
    rw [Int.toNat_natCast]
    exact implGroupFactors hg
  · rw [if_neg c]
    simp only [impl_GroupFactors.f]
    refine Ep.bind0 (implGraph _ _) ?_
    exact Ep.neg c (Ep.now rfl)
def cycB (n : Int) (es : List E) : Bool := gOk n es && decide (((gfO n es).length : Int) ≤ 1)
theorem specCyc (n : Int) (es : List E) : Ep (fun k => spec_IsCyclic.f k n es) (· = cycB n es) := by
  simp only [spec_IsCyclic.f]
  refine Ep.bind (specGraph _ _) ?_
  rintro _ rfl
  unfold cycB
  by_cases c : gOk n es = true
  · refine Ep.pos c (Ep.bind (specGF n es) ?_)
    rintro _ rfl
    rw [c]
    exact Ep.now rfl
  · refine Ep.neg c (Ep.now ?_)
    rw [show gOk n es = false by simpa using c]
    rfl
theorem implCyc (n : Int) (es : List E) : Ep (fun k => impl_IsCyclic.f k n es) (· = cycB n es) := by
  simp only [impl_IsCyclic.f]
  refine Ep.bind0 (implGraph _ _) ?_
  unfold cycB
  by_cases c : gOk n es = true
  · refine Ep.pos c (Ep.bind (implGF n es) ?_)
    rintro _ rfl
    rw [c]
    exact Ep.now rfl
  · refine Ep.neg c (Ep.now ?_)
    rw [show gOk n es = false by simpa using c]
    rfl
end Go.Proofs.Ytkcbinohpdhbgaa.Cf
end

section
namespace Go.Proofs.Ytkcbinohpdhbgaa.P
open Go.RowKit Go.Proofs.YtkcbinohpdhbgaaW.PrintWords Go.Proofs.YtkcbinohpdhbgaaW.PrintLast Go.Proofs.YtkcbinohpdhbgaaW.PrintMore
attribute [local go_sem] max2_int min2_int max_two min_two max_three min_three max_four min_four
set_option linter.unusedVariables false
set_option linter.unusedSimpArgs false
def laws_markEdgeS.l0 : Nat → List (S76) → Int → Int → Option (Int × (List (S76)))
 | 0, _, _, _ => none
 | k + 1, x0, x1, x5 => if x5 < (x0.length : Int) then (if 0 ≤ x5 then ((some (x0.set (x5 : Int).toNat (⟨x1, (rd_T76 x0 x5).f1⟩ : S76) : List (S76))).bind fun y101 => (laws_markEdgeS.l0 k (y101.set (x5 : Int).toNat (⟨(rd_T76 y101 x5).f0, wrap64 (x1 + 1)⟩ : S76)) (wrap64 ((wrap64 (x1 + 1)) + 1)) (wrap64 (x5 + 1)))) else (none)) else (some (x1, x0))
def laws_markEdgeS.f (k : Nat) (l0 : List (S76)) (a1 : Int) : Option (Int × (List (S76))) := laws_markEdgeS.l0 k l0 a1 0
theorem laws_markEdgeS.mono_l : ∀ k, (∀ y0 y1 y2, LeO (laws_markEdgeS.l0 k y0 y1 y2) (laws_markEdgeS.l0 (k + 1) y0 y1 y2))
 | 0 => fun _ _ _ r h => by simp [laws_markEdgeS.l0] at h
 | k + 1 => by
  have ih0 := laws_markEdgeS.mono_l k
  ·intro y0 y1 y2
   unfold laws_markEdgeS.l0
   exact zm0
theorem laws_markEdgeS.mono : ∀ a0 a1 k, LeO (laws_markEdgeS.f k a0 a1) (laws_markEdgeS.f (k + 1) a0 a1) := by
 intro a0 a1 k; have ih0 := laws_markEdgeS.mono_l k; unfold laws_markEdgeS.f; exact zm0
def laws_markGraph.f (k : Nat) (a0_0 : Int) (l0_1 : List (S76)) (a1 : Int) : Option (Int × (List (S76))) := (laws_markEdgeS.f k l0_1 a1).bind fun bt102 => (some (bt102.1, bt102.2))
theorem laws_markGraph.mono : ∀ a0 a1 a2 k, LeO (laws_markGraph.f k a0 a1 a2) (laws_markGraph.f (k + 1) a0 a1 a2) := by
 intro a0 a1 a2 k; unfold laws_markGraph.f; repeat' first | (with_reducible apply laws_markEdgeS.mono) | (with_reducible exact LeO.refl _) | (with_reducible exact LeO.none _) | (with_reducible refine LeO.ite ?_ ?_) | (with_reducible refine LeO.bind ?_ (fun _ => ?_)) | apply laws_markEdgeS.mono | exact LeO.none _ | refine LeO.ite ?_ ?_ | refine LeO.bind ?_ (fun _ => ?_)
end Go.Proofs.Ytkcbinohpdhbgaa.P
end

section
namespace Go.Proofs.Ytkcbinohpdhbgaa.Cf
set_option linter.unusedVariables false
set_option linter.unusedSimpArgs false
open Go.RowKit Go.Proofs.YtkcbinohpdhbgaaW.PrintWords Go.Proofs.Ytkcbinohpdhbgaa.P
def EWf (e : E) : Prop := Wf .i64 e.f0 ∧ Wf .i64 e.f1
theorem rdLE_get {es : List E} {i : Nat} (h : i < es.length) : rd_T82 es (i : Int) = es[i] := by simp [rd_T82, List.getD, h]
theorem szGraph_ok (n : Int) (es : List E) (a : Int) (ha : 0 ≤ a ∧ a ≤ 1048576) (hl : es.length ≤ 9223372036854775807) : ∃ t, laws_szGraph.f n es a = some t ∧ t ≤ 1048576 ∧ (¬ t < 0 → es.length ≤ 1048576) := by
  unfold laws_szGraph.f laws_szEdgeS.f
  rw [wrap_id (by omega) (by omega)]
  by_cases h : a - (es.length : Int) < 0
  · refine ⟨-1, ?_, by omega, by omega⟩
    rw [if_pos h]
    simp
  · refine ⟨a - es.length, ?_, by omega, by omega⟩
    rw [if_neg h]
    simp only [Option.bind_some]
    rw [if_neg h]
theorem toEdgeS_l0 (x0 : List E) (h : x0.length ≤ 1048576) : ∀ (d i : Nat) (x3 : List E), i + d = x0.length → x3.length = x0.length → (∀ j, j < i → x3[j]? = x0[j]?) → Ep (fun k => laws_toEdgeS.l0 k x0 x3 (i : Int)) (· = x0) := by
  intro d
  induction d with
  | zero =>
    intro i x3 hi hl hx
    refine Ep.up ?_
    simp only [laws_toEdgeS.l0]
    refine Ep.neg (by omega) (Ep.now ?_)
    apply List.ext_getElem?
    intro j
    by_cases hj : j < i
    · exact hx j hj
    · rw [List.getElem?_eq_none (by omega), List.getElem?_eq_none (by omega)]
  | succ d ih =>
    intro i x3 hi hl hx
    have hlt : i < x0.length := by omega
    refine Ep.up ?_
    simp only [laws_toEdgeS.l0]
    refine Ep.pos (by omega) (Ep.pos (by omega) ?_)
    rw [rdLE_get hlt, wrap_succ (by omega)]
    refine Ep.bind0 rfl (Ep.pos (by omega) ?_)
    refine ih (i + 1) _ (by omega) (by simpa using hl) ?_
    intro j hj
    rw [Int.toNat_natCast]
    by_cases e : i = j
    · subst e
      rw [List.getElem?_set_self (by omega), List.getElem?_eq_getElem (by omega)]
    · rw [List.getElem?_set_ne e]
      exact hx j (by omega)
theorem toGraph_ok (n : Int) (es : List E) (h : es.length ≤ 1048576) : Ep (fun k => laws_toGraph.f k n es) (· = (n, es)) := by
  simp only [laws_toGraph.f, laws_toEdgeS.f]
  refine Ep.bind (P := (· = es)) (Ep.pos (by omega) (Ep.pos (by simp; omega) ?_)) ?_
  · exact toEdgeS_l0 es h es.length 0 _ (by omega) (by simp) (fun j hj => by omega)
  · rintro _ rfl
    exact Ep.now rfl
theorem eqEdge_ok (a b : Int) : laws_eqEdge.f a b a b = some true := by simp [laws_eqEdge.f]
theorem eqEdgeS_l0 (x : List E) (h : x.length ≤ 1048576) : ∀ (d i : Nat), i + d = x.length → Ep (fun k => laws_eqEdgeS.l0 k x x (i : Int)) (· = true) := by
  intro d
  induction d with
  | zero =>
    intro i hi
    refine Ep.up ?_
    simp only [laws_eqEdgeS.l0]
    exact Ep.neg (by omega) (Ep.now rfl)
  | succ d ih =>
    intro i hi
    refine Ep.up ?_
    simp only [laws_eqEdgeS.l0]
    refine Ep.pos (by omega) (Ep.pos (by omega) (Ep.pos (by omega) ?_))
    rw [wrap_succ (by omega)]
    exact Ep.bind0 (eqEdge_ok _ _) (Ep.pos rfl (ih (i + 1) (by omega)))
theorem eqGraph_ok (n : Int) (es : List E) (h : es.length ≤ 1048576) : Ep (fun k => laws_eqGraph.f k n es n es) (· = true) := by
  simp only [laws_eqGraph.f]
  refine Ep.pos trivial (Ep.bind (P := (· = true)) ?_ ?_)
  · simp only [laws_eqEdgeS.f]
    exact Ep.pos trivial (eqEdgeS_l0 es h es.length 0 (by omega))
  · rintro _ rfl
    exact Ep.pos rfl (Ep.now rfl)
theorem markEdgeS_l0 (n : Nat) (hn : n ≤ 1048576) {B : Int} (hB : B ≤ 1099511627776) : ∀ (d i : Nat) (x : List E) (a : Int), i + d = n → x.length = n → 0 ≤ a → a + 2 * d ≤ B → Ep (fun k => laws_markEdgeS.l0 k x a (i : Int)) (fun r => 0 ≤ r.1 ∧ r.1 ≤ B) := by
  intro d
  induction d with
  | zero =>
    intro i x a hi hx h0 ha
    refine Ep.up ?_
    simp only [laws_markEdgeS.l0]
    exact Ep.neg (by omega) (Ep.now ⟨h0, by omega⟩)
  | succ d ih =>
    intro i x a hi hx h0 ha
    refine Ep.up ?_
    simp only [laws_markEdgeS.l0]
    refine Ep.pos (by omega) (Ep.pos (by omega) (Ep.bind0 rfl ?_))
    rw [wrap_succ (by omega), wrap_id (x := a + 1) (by omega) (by omega), wrap_id (x := a + 1 + 1) (by omega) (by omega)]
    exact ih (i + 1) _ _ (by omega) (by simpa using hx) (by omega) (by omega)
theorem markGraph_ok (n : Int) (es : List E) (a : Int) (h : es.length ≤ 1048576) (ha : 0 ≤ a ∧ a ≤ 1000) : Ep (fun k => laws_markGraph.f k n es a) (fun r => 0 ≤ r.1 ∧ r.1 ≤ 3000000) := by
  have := markEdgeS_l0 es.length h (B := 3000000) (by omega) es.length 0 es a (by omega) rfl ha.1 (by omega)
  simp only [laws_markGraph.f, laws_markEdgeS.f]
  refine Ep.bind this ?_
  intro r hr
  exact Ep.now hr
theorem law_FnExactIsCyclic (n : Int) (es : List E) (hn : Wf .i64 n) (hes : SL EWf es) : Ep (fun k => laws_FnExactIsCyclic.f k n es) (· = true) := by
  simp only [laws_FnExactIsCyclic.f]
  obtain ⟨t, ht, _, h2⟩ := szGraph_ok n es 1048576 (by omega) hes.1
  refine Ep.bind0 ht (Ep.ite (fun _ => Ep.now rfl) (fun hc2 => ?_))
  have hel := h2 hc2
  repeat (first
    | exact Ep.now rfl
    | (refine Ep.bind (toGraph_ok _ _ hel) ?_; rintro _ rfl)
    | (refine Ep.bind (eqGraph_ok _ _ hel) ?_; rintro _ rfl)
    | (refine Ep.bind (specCyc _ _) ?_; rintro _ rfl)
    | (refine Ep.bind (implCyc _ _) ?_; rintro _ rfl)
    | (refine Ep.bind (markGraph_ok _ _ 1 hel (by omega)) ?_; intro r hr0_)
    | refine Ep.pos rfl ?_
    | refine Ep.pos trivial ?_
    | refine Ep.neg (by simp; omega) ?_
    | refine Ep.neg (by omega) ?_
    | refine Ep.neg (by simp) ?_)
end Go.Proofs.Ytkcbinohpdhbgaa.Cf
end

section
namespace Go.Proofs.Ytkcbinohpdhbgaa.Cf
set_option linter.unusedVariables false
set_option linter.unusedSimpArgs false
open Go.RowKit Go.ChangeShapes Go.WideShapes Go.Deep Go.Joins Go.Proofs.YtkcbinohpdhbgaaW.PrintWords
section
variable {H : Type} {enc : TypeId × Value → H} {P : Program} {w : World} {base : Nat} {spare : Nat → Bool} {held : Bool}
/-- A slice, whatever its elements are, if each of them can be told. -/
theorem trod_C {α : Type} {d : Kd α} {Q : α → Prop} (hd : Inhabited α) {t e : TypeId} {fuel : Nat} {cs : List Value} {x : DataW H × List MemPlace} (ht : P.underlying t = some (.slice e)) (hsz : P.cellsOf e = d.sz)
    (hel : ∀ (n : Nat) (cs : List Value) (y : DataW H × List MemPlace), DataW.trod enc P w base spare held n e cs = some y → ∃ a : α, d.K w a cs ∧ Q a)
    (h : DataW.trod enc P w base spare held fuel t cs = some x) : ∃ A len cap xs, cs = [.slice A len cap] ∧ xs.length = len ∧ len ≤ cap ∧ Kd.C d w A len xs ∧ SL Q xs := by
  rcases open_slice ht h with ⟨rfl, _⟩ | ⟨a, len, cap, m, n, D, Pl, rfl, _, hl, hm, hmm, _, hx⟩
  · exact ⟨none, 0, 0, [], rfl, rfl, Nat.le_refl _, ⟨rfl, by omega, fun hn => by omega⟩, by simp, fun x hx => by cases hx⟩
  · have hlm : len ≤ m := by rw [hmm]; split <;> omega
    obtain ⟨X, hX⟩ := choose_lt (α := α) (n := len) (p := fun i z => Q z ∧ ∃ c, c.length = d.sz ∧ d.K w z c ∧ ∀ j u, c[j]? = some u → w.cell? (a.add (i * d.sz + j)) = some u) (fun i hi => by
      obtain ⟨cs', h1, h2⟩ := hx i (by omega)
      obtain ⟨z, hz, hq⟩ := hel n cs' _ h2
      obtain ⟨_, hlen, hc⟩ := World.cells?_some h1
      refine ⟨z, hq, cs', by rw [hlen, hsz], hz, fun j u hj => ?_⟩
      have hjl : j < cs'.length := by
        apply Classical.byContradiction
        intro hc
        rw [List.getElem?_eq_none (by omega)] at hj
        cases hj
      have := hc j (by omega)
      rw [Deep.add_add, hsz] at this
      rw [this, hj])
    refine ⟨some a, len, cap, (List.range len).map X, rfl, by simp, hl, ⟨by simp, ?_, fun _ => ⟨a, rfl, fun j p hj => ?_⟩⟩, by simp; unfold maxLen at hm; omega, fun x hx => ?_⟩
    · unfold maxLen at hm
      omega
    · have hjl : j < len := by
        apply Classical.byContradiction
        intro hc
        rw [List.getElem?_eq_none (by simp; omega)] at hj
        cases hj
      have : p = X j := by
        rw [List.getElem?_eq_getElem (by simpa using hjl)] at hj
        simpa using hj.symm
      subst this
      exact (hX j hjl).2
    · obtain ⟨i, hi, rfl⟩ := List.mem_map.1 hx
      exact (hX i (List.mem_range.1 hi)).1
/-- A struct of two numbers. -/
theorem el_pair {k0 k1 : IntKind} {e : TypeId} {f0 f1 : Field} (he : P.underlying e = some (.struct #[f0, f1])) (ce : P.cellsOf e = 2) (o0 : f0.offset = 0) (o1 : f1.offset = 1) (c0 : P.cellsOf f0.type = 1) (c1 : P.cellsOf f1.type = 1)
    (u0 : P.underlying f0.type = some (.int k0)) (u1 : P.underlying f1.type = some (.int k1)) :
    ∀ (n : Nat) (cs : List Value) (y : DataW H × List MemPlace), DataW.trod enc P w base spare held n e cs = some y → ∃ a b : Int, cs = [.int k0 a, .int k1 b] ∧ Wf k0 a ∧ Wf k1 b := by
  intro n cs y h
  obtain ⟨y0, y1, m, _, hl, h0, h1⟩ := trod_struct2 he h
  rw [ce] at hl
  rw [o0, c0] at h0
  rw [o1, c1] at h1
  match cs, hl with
  | [a, b], _ =>
    obtain ⟨x, hx, _, wx⟩ := DataW.trod_int u0 h0
    obtain ⟨z, hz, _, wz⟩ := DataW.trod_int u1 h1
    simp at hx hz
    subst hx; subst hz
    exact ⟨x, z, rfl, wx, wz⟩
/-- A struct of a number and a slice that comes in. -/
theorem arg_graph {α : Type} {d : Kd α} {Q : α → Prop} (hd : Inhabited α) {r : Reach} {b0 : Nat} {t e : TypeId} {f0 f1 : Field} {v : Value} {x : DataW H} {p : List MemPlace} (hs : P.underlying t = some (.struct #[f0, f1])) (hone : oneCellFields P #[f0, f1] = true) (hC : P.cellsOf t = 2)
    (u0 : P.underlying f0.type = some (.int .i64)) (u1 : P.underlying f1.type = some (.slice e)) (hsz : P.cellsOf e = d.sz)
    (hel : ∀ (n : Nat) (cs : List Value) (y : DataW H × List MemPlace), DataW.trod enc P w base spare held n e cs = some y → ∃ a : α, d.K w a cs ∧ Q a)
    (hv : Value.okWide P w r b0 t v) (h : DataW.Trod enc P w base spare held t v x p) : ∃ n a len cap, ∃ xs : List α, v = .agg #[.int .i64 n, .slice a len cap] ∧ Wf .i64 n ∧ xs.length = len ∧ len ≤ cap ∧ Kd.C d w a len xs ∧ SL Q xs := by
  obtain ⟨v0, v1, y0, y1, m, rfl, _, _, h0, h1⟩ := open_agg2 hs hone hC hv h
  obtain ⟨n, hn, _, hw⟩ := DataW.trod_int u0 h0
  obtain ⟨A, len, cap, xs, hcs, hl, hc, hx, hq⟩ := trod_C hd u1 hsz hel h1
  simp at hn hcs
  subst hn; subst hcs
  exact ⟨n, A, len, cap, xs, rfl, hw, hl, hc, hx, hq⟩
end
end Go.Proofs.Ytkcbinohpdhbgaa.Cf
end

section
namespace Go.Proofs.Ytkcbinohpdhbgaa.Cf
theorem and2 {a b : Bool} (h : a = true) (k : b = true) : (a && b) = true := by rw [h, k]; rfl
theorem iniS : Try.prog.initOrder.toList = ['h', 'a', 'r', 'n', 'e', 's', 's', ' ', '5', '8', 'd', '1', '6', '8', '6', 'c', 'f', '1', '5', 'a', '4', '6', 'd', 'e', '2', 'd', 'b', '2', '2', '4', '6', '5', 'e', 'f', '8', '2', '4', '6', '0', 'd', 'f', 'a', '6', 'b', '7', '2', 'f', 'f', '4', '0', '5', '9', 'd', 'a', '5', '4', '8', '6', '4', 'd', 'e', '8', 'a', '7', '2', '6', 'b', 'b', 'e', 'c', '5', 'd', ' ', 'c', 'u', 't', ' ', 'a', 't', ' ', 'l', 'o', 'o', 'p', '.', 'e', 'x', 'a', 'm', 'p', 'l', 'e', '/', 'g', '0', '0', '8', '4', '1', '/', 'l', 'a', 'w', 's', '.', 'F', 'n', 'E', 'x', 'a', 'c', 't', 'G', 'r', 'o', 'u', 'p', 'F', 'a', 'c', 't', 'o', 'r', 's', ' ', 'l', 'o', 'o', 'p', '.', 'e', 'x', 'a', 'm', 'p', 'l', 'e', '/', 'g', '0', '0', '8', '4', '1', '/', 'l', 'a', 'w', 's', '.', 'F', 'n', 'E', 'x', 'a', 'c', 't', 'I', 's', 'C', 'y', 'c', 'l', 'i', 'c', ' ', 'l', 'o', 'o', 'p', '.', 'e', 'x', 'a', 'm', 'p', 'l', 'e', '/', 'g', '0', '0', '8', '4', '1', '/', 'l', 'a', 'w', 's', '.', 'F', 'n', 'O', 'r', 'd', 'e', 'r', 's', ' ', 'l', 'o', 'o', 'p', '.', 'e', 'x', 'a', 'm', 'p', 'l', 'e', '/', 'g', '0', '0', '8', '4', '1', '/', 'l', 'a', 'w', 's', '.', 'F', 'n', 'E', 'x', 'a', 'c', 't', 'R', 'o', 'w', 'O', 'f', 'O', 'n', 'e'] := by
  have h : Try.prog.initOrder = String.ofList ['h', 'a', 'r', 'n', 'e', 's', 's', ' ', '5', '8', 'd', '1', '6', '8', '6', 'c', 'f', '1', '5', 'a', '4', '6', 'd', 'e', '2', 'd', 'b', '2', '2', '4', '6', '5', 'e', 'f', '8', '2', '4', '6', '0', 'd', 'f', 'a', '6', 'b', '7', '2', 'f', 'f', '4', '0', '5', '9', 'd', 'a', '5', '4', '8', '6', '4', 'd', 'e', '8', 'a', '7', '2', '6', 'b', 'b', 'e', 'c', '5', 'd', ' ', 'c', 'u', 't', ' ', 'a', 't', ' ', 'l', 'o', 'o', 'p', '.', 'e', 'x', 'a', 'm', 'p', 'l', 'e', '/', 'g', '0', '0', '8', '4', '1', '/', 'l', 'a', 'w', 's', '.', 'F', 'n', 'E', 'x', 'a', 'c', 't', 'G', 'r', 'o', 'u', 'p', 'F', 'a', 'c', 't', 'o', 'r', 's', ' ', 'l', 'o', 'o', 'p', '.', 'e', 'x', 'a', 'm', 'p', 'l', 'e', '/', 'g', '0', '0', '8', '4', '1', '/', 'l', 'a', 'w', 's', '.', 'F', 'n', 'E', 'x', 'a', 'c', 't', 'I', 's', 'C', 'y', 'c', 'l', 'i', 'c', ' ', 'l', 'o', 'o', 'p', '.', 'e', 'x', 'a', 'm', 'p', 'l', 'e', '/', 'g', '0', '0', '8', '4', '1', '/', 'l', 'a', 'w', 's', '.', 'F', 'n', 'O', 'r', 'd', 'e', 'r', 's', ' ', 'l', 'o', 'o', 'p', '.', 'e', 'x', 'a', 'm', 'p', 'l', 'e', '/', 'g', '0', '0', '8', '4', '1', '/', 'l', 'a', 'w', 's', '.', 'F', 'n', 'E', 'x', 'a', 'c', 't', 'R', 'o', 'w', 'O', 'f', 'O', 'n', 'e'] := by kernel_rfl
  exact (congrArg String.toList h).trans String.toList_ofList
theorem iniW : behindMainWord (wordsSigns Try.prog.initOrder.toList) = [['c', 'u', 't'], ['a', 't'], ['l', 'o', 'o', 'p', '.', 'e', 'x', 'a', 'm', 'p', 'l', 'e', '/', 'g', '0', '0', '8', '4', '1', '/', 'l', 'a', 'w', 's', '.', 'F', 'n', 'E', 'x', 'a', 'c', 't', 'G', 'r', 'o', 'u', 'p', 'F', 'a', 'c', 't', 'o', 'r', 's'], ['l', 'o', 'o', 'p', '.', 'e', 'x', 'a', 'm', 'p', 'l', 'e', '/', 'g', '0', '0', '8', '4', '1', '/', 'l', 'a', 'w', 's', '.', 'F', 'n', 'E', 'x', 'a', 'c', 't', 'I', 's', 'C', 'y', 'c', 'l', 'i', 'c'], ['l', 'o', 'o', 'p', '.', 'e', 'x', 'a', 'm', 'p', 'l', 'e', '/', 'g', '0', '0', '8', '4', '1', '/', 'l', 'a', 'w', 's', '.', 'F', 'n', 'O', 'r', 'd', 'e', 'r', 's'], ['l', 'o', 'o', 'p', '.', 'e', 'x', 'a', 'm', 'p', 'l', 'e', '/', 'g', '0', '0', '8', '4', '1', '/', 'l', 'a', 'w', 's', '.', 'F', 'n', 'E', 'x', 'a', 'c', 't', 'R', 'o', 'w', 'O', 'f', 'O', 'n', 'e']] := (congrArg (fun x => behindMainWord (wordsSigns x)) iniS).trans (by kernel_rfl)
theorem mk_cut {P : Program} {r : List (List Char)} (h : behindMainWord (wordsSigns P.initOrder.toList) = ['c', 'u', 't'] :: r) : P.make = some .cut := by
  unfold Program.make
  rw [h]
  rfl
theorem lf_cut {P : Program} {r : List (List Char)} (h : behindMainWord (wordsSigns P.initOrder.toList) = ['c', 'u', 't'] :: r) (k : (stripLifts liftWords (['c', 'u', 't'] :: r)).1 = []) : P.liftsFinal = false := by
  unfold Program.liftsFinal Program.headLifts
  rw [h]
  simp [k]
theorem en_cut {P : Program} {r : List (List Char)} (h : behindMainWord (wordsSigns P.initOrder.toList) = ['c', 'u', 't'] :: r) (k1 : (stripLifts liftWords (['c', 'u', 't'] :: r)).1 = []) (k2 : ((stripLifts liftWords (['c', 'u', 't'] :: r)).2.head? == some "cut".toList) = true) (h1 : P.laysLater = false) (h2 : P.bearsReflect = false) (h3 : P.doorFits [] = true) : P.mayEnter = true := by
  unfold Program.mayEnter
  rw [h]
  simp only [k1, k2, h1, h2, h3]
  simp
theorem make : Try.prog.make = some .cut := mk_cut iniW
theorem lifted : Try.prog.liftsFinal = false := lf_cut iniW (by kernel_rfl)
theorem enter : Try.prog.mayEnter = true := en_cut iniW (by kernel_rfl) (by kernel_rfl) (by kernel_rfl) (by kernel_rfl) (by kernel_rfl)
end Go.Proofs.Ytkcbinohpdhbgaa.Cf
end

