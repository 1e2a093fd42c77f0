/- A part of the proof of FnExactGroupFactors. -/
import Derived.Test.YtkcbinohpdhbgaaBFnExactGroupFactors2
import Derived.Test.YtkcbinohpdhbgaaBFnExactGroupFactors0
import Derived.Test.YtkcbinohpdhbgaaBFnExactGroupFactors1
import Derived.Deep.Slices
import Derived.Lib.SmallJoins
import Derived.ChangeSame
import Derived.Test.YtkcbinohpdhbgaaRows
import Derived.JoinedOf
import Derived.KernelRfl
section
namespace Go.Proofs.Ytkcbinohpdhbgaa.P
open Go.RowKit Go.Proofs.YtkcbinohpdhbgaaW.PrintWords Go.Proofs.YtkcbinohpdhbgaaW.PrintLast Go.Proofs.YtkcbinohpdhbgaaW.PrintMore
attribute [local go_sem] max2_int min2_int max_two min_two max_three min_three max_four min_four
set_option linter.unusedVariables false
set_option linter.unusedSimpArgs false
def impl_GroupOrder.f (k : Nat) (a0_0 : Int) (l0_1 : List (S76)) : Option (Int) := (impl_CountTrees.f k a0_0 l0_1).bind fun t102 => (some t102)
theorem impl_GroupOrder.mono : ∀ a0 a1 k, LeO (impl_GroupOrder.f k a0 a1) (impl_GroupOrder.f (k + 1) a0 a1) := by
 intro a0 a1 k; unfold impl_GroupOrder.f; repeat' first | (with_reducible apply impl_CountTrees.mono) | (with_reducible exact LeO.refl _) | (with_reducible exact LeO.none _) | (with_reducible refine LeO.ite ?_ ?_) | (with_reducible refine LeO.bind ?_ (fun _ => ?_)) | apply impl_CountTrees.mono | exact LeO.none _ | refine LeO.ite ?_ ?_ | refine LeO.bind ?_ (fun _ => ?_)
end Go.Proofs.Ytkcbinohpdhbgaa.P
end

section
namespace Go.Proofs.Ytkcbinohpdhbgaa.Cf
set_option linter.unusedVariables false
set_option linter.unusedSimpArgs false
open Go.RowKit Go.Proofs.YtkcbinohpdhbgaaW.PrintWords Go.Proofs.Ytkcbinohpdhbgaa.P
theorem implMat_l0 {m : Nat} (hm : m ≤ 5) {M : List (List Int)} (hM : SqOk m M) : ∀ (d i : Nat), i + d = m → Ep (fun k => impl_MatrixOk.l0 k M M (m : Int) (i : Int)) (· = true) := by
  intro d
  induction d with
  | zero =>
    intro i hi
    refine Ep.up ?_
    simp only [impl_MatrixOk.l0]
    exact Ep.neg (by omega) (Ep.now rfl)
  | succ d ih =>
    intro i hi
    have hml := hM.1
    have hlt : i < M.length := by omega
    have e : rd_L3 M (i : Int) = M[i] := by
      unfold rd_L3
      rw [Int.toNat_natCast, List.getD_eq_getElem?_getD, List.getElem?_eq_getElem hlt]
      rfl
    have h1 := hM.2.1 _ (List.getElem_mem hlt)
    have h2 := hM.2.2 _ (List.getElem_mem hlt)
    refine Ep.up ?_
    simp only [impl_MatrixOk.l0]
    refine Ep.pos (by omega) (Ep.pos (by omega) (Ep.pos (by omega) (Ep.pos (by rw [e]; omega) ?_)))
    rw [e]
    refine Ep.bind (allWithin_ok _ _ _ (by omega)) ?_
    rintro _ rfl
    refine Ep.pos (decide_eq_true fun x hx => by have := h2 x hx; omega) ?_
    rw [wrap_succ (by omega)]
    exact ih (i + 1) (by omega)
theorem implMatrixOk {m : Nat} (hm : m ≤ 5) {M : List (List Int)} (hM : SqOk m M) : Ep (fun k => impl_MatrixOk.f k M) (· = true) := by
  simp only [impl_MatrixOk.f]
  have hml := hM.1
  refine Ep.neg (by omega) ?_
  rw [hml]
  exact implMat_l0 hm hM m 0 (by omega)
theorem redM_sq {n q : Nat} (hq : q < n) {es : List E} (hel : es.length ≤ 12) : SqOk (n - 1) (redM n es q) := by
  refine ⟨redM_len hq es, fun r hr => ?_, fun r hr x hx => ?_⟩
  · unfold redM at hr
    obtain ⟨v, _, rfl⟩ := List.mem_map.1 hr
    rw [List.length_map, vsL_len hq]
  · unfold redM at hr
    obtain ⟨v, _, rfl⟩ := List.mem_map.1 hr
    obtain ⟨w, _, rfl⟩ := List.mem_map.1 hx
    exact lapM_bd hel _ _
theorem implMagnitude (x : Int) (hx : -4611686018427387904 ≤ x ∧ x ≤ 4611686018427387904) : impl_magnitude.f x = some (x.natAbs : Int) := by
  unfold impl_magnitude.f
  rw [wrap_id (by omega) (by omega)]
  unfold mx
  exact congrArg some (by split <;> omega)
theorem implDivisor : ∀ (d : Nat) (x y : Int), y.natAbs ≤ d → (-4611686018427387904 ≤ x ∧ x ≤ 4611686018427387904) → (-4611686018427387904 ≤ y ∧ y ≤ 4611686018427387904) → Ep (fun k => impl_divisor.l0 k x y) (· = ((Nat.gcd x.natAbs y.natAbs : Nat) : Int)) := by
  intro d
  induction d with
  | zero =>
    intro x y hd hx hy
    refine Ep.up ?_
    simp only [impl_divisor.l0]
    refine Ep.pos (by omega) (Ep.bind0 (implMagnitude x hx) (Ep.now ?_))
    rw [show y.natAbs = 0 by omega, Nat.gcd_zero_right]
  | succ d ih =>
    intro x y hd hx hy
    refine Ep.up ?_
    simp only [impl_divisor.l0]
    by_cases c : y = 0
    · refine Ep.pos c (Ep.bind0 (implMagnitude x hx) (Ep.now ?_))
      rw [c, Int.natAbs_zero, Nat.gcd_zero_right]
    · refine Ep.neg c ?_
      have e : (Int.tmod x y).natAbs = x.natAbs % y.natAbs := Int.natAbs_tmod x y
      have hlt : x.natAbs % y.natAbs < y.natAbs := Nat.mod_lt _ (by omega)
      refine (ih y (Int.tmod x y) (by omega) hy (by omega)).mono fun v hv => ?_
      rw [hv, e, Nat.gcd_comm x.natAbs y.natAbs, Nat.gcd_rec y.natAbs x.natAbs, Nat.gcd_comm]
theorem implDivisor_f {x y : Int} (hx : -4611686018427387904 ≤ x ∧ x ≤ 4611686018427387904) (hy : -4611686018427387904 ≤ y ∧ y ≤ 4611686018427387904) : Ep (fun k => impl_divisor.f k x y) (· = ((Nat.gcd x.natAbs y.natAbs : Nat) : Int)) := implDivisor _ x y (Nat.le_refl _) hx hy
/-- The minors of size k of some pairs of sets of rows and columns. -/
def mins (M : List (List Int)) (k : Nat) (L : List (Nat × Nat)) : List Int := (L.filter fun p => (bitsL p.1).length == k && (bitsL p.2).length == k).map fun p => detL M (bitsL p.1) (bitsL p.2)
def gOf (M : List (List Int)) (k : Nat) (L : List (Nat × Nat)) : Nat := gcdF (mins M k L) 0
/-- The rows below a with all columns, row a with the columns below b. -/
def prs (m a b : Nat) : List (Nat × Nat) := ((List.range a).flatMap fun x => (List.range (2 ^ m)).map fun y => (x, y)) ++ (List.range b).map fun y => (a, y)
theorem prs_succ (m a b : Nat) : prs m a (b + 1) = prs m a b ++ [(a, b)] := by
  unfold prs
  rw [List.range_succ, List.map_append, ← List.append_assoc]
  rfl
theorem prs_next (m a : Nat) : prs m a (2 ^ m) = prs m (a + 1) 0 := by
  unfold prs
  rw [List.range_succ (n := a), List.flatMap_append]
  simp
theorem mins_app (M : List (List Int)) (k : Nat) (L : List (Nat × Nat)) (p : Nat × Nat) : mins M k (L ++ [p]) = mins M k L ++ (if (bitsL p.1).length = k ∧ (bitsL p.2).length = k then [detL M (bitsL p.1) (bitsL p.2)] else []) := by
  unfold mins
  rw [List.filter_append, List.map_append]
  congr 1
  by_cases c : (bitsL p.1).length = k ∧ (bitsL p.2).length = k
  · rw [if_pos c, List.filter_cons_of_pos (by simp [c.1, c.2])]; rfl
  · rw [if_neg c, List.filter_cons_of_neg (by simpa using c)]; rfl
theorem gOf_app (M : List (List Int)) (k : Nat) (L : List (Nat × Nat)) (p : Nat × Nat) : gOf M k (L ++ [p]) = if (bitsL p.1).length = k ∧ (bitsL p.2).length = k then Nat.gcd (gOf M k L) (detL M (bitsL p.1) (bitsL p.2)).natAbs else gOf M k L := by
  unfold gOf
  rw [mins_app, gcdF_app]
  by_cases c : (bitsL p.1).length = k ∧ (bitsL p.2).length = k
  · rw [if_pos c, if_pos c]; rfl
  · rw [if_neg c, if_neg c]; rfl
theorem bitsL_lt : ∀ (m : Fin 6) (a : Fin 64), a.val < 2 ^ m.val → (bitsL a.val).length ≤ m.val ∧ (∀ x ∈ bitsL a.val, 0 ≤ x ∧ x < (m.val : Int)) ∧ (bitsL a.val).Pairwise (· < ·) := by decide
theorem bitsL_inc {m a : Nat} (hm : m ≤ 5) (ha : a < 2 ^ m) : Inc m (bitsL a).length (bitsL a) ∧ (bitsL a).length ≤ m := by
  have h32 := Nat.pow_le_pow_right (show 0 < 2 by omega) hm
  obtain ⟨h1, h2, h3⟩ := bitsL_lt ⟨m, by omega⟩ ⟨a, by omega⟩ ha
  exact ⟨⟨rfl, h3, h2⟩, h1⟩
def msk (b0 b1 b2 b3 b4 b5 : Bool) : Nat := b0.toNat + 2 * b1.toNat + 4 * b2.toNat + 8 * b3.toNat + 16 * b4.toNat + 32 * b5.toNat
theorem msk_ok : ∀ b0 b1 b2 b3 b4 b5 : Bool, msk b0 b1 b2 b3 b4 b5 < 64 ∧ ((msk b0 b1 b2 b3 b4 b5).testBit 0 = b0 ∧ (msk b0 b1 b2 b3 b4 b5).testBit 1 = b1 ∧ (msk b0 b1 b2 b3 b4 b5).testBit 2 = b2) ∧ (msk b0 b1 b2 b3 b4 b5).testBit 3 = b3 ∧ (msk b0 b1 b2 b3 b4 b5).testBit 4 = b4 ∧ (msk b0 b1 b2 b3 b4 b5).testBit 5 = b5 := by decide
theorem lt_of_bits : ∀ (m : Fin 6) (a : Fin 64), (∀ x ∈ bitsL a.val, x < (m.val : Int)) → a.val < 2 ^ m.val := by decide
theorem inc_ext : ∀ {l l' : List Int}, l.Pairwise (· < ·) → l'.Pairwise (· < ·) → (∀ x, x ∈ l ↔ x ∈ l') → l = l'
  | [], [], _, _, _ => rfl
  | [], y :: l', _, _, h => absurd ((h y).2 List.mem_cons_self) (by simp)
  | x :: l, [], _, _, h => absurd ((h x).1 List.mem_cons_self) (by simp)
  | x :: l, y :: l', h1, h2, h => by
    rw [List.pairwise_cons] at h1 h2
    have e : x = y := by
      rcases List.mem_cons.1 ((h x).1 List.mem_cons_self) with e | e
      · exact e
      · rcases List.mem_cons.1 ((h y).2 List.mem_cons_self) with e' | e'
        · exact e'.symm
        · have := h2.1 x e
          have := h1.1 y e'
          omega
    subst e
    rw [inc_ext h1.2 h2.2 fun z => ⟨fun hz => ?_, fun hz => ?_⟩]
    · rcases List.mem_cons.1 ((h z).1 (List.mem_cons_of_mem _ hz)) with e | e
      · have := h1.1 z hz
        omega
      · exact e
    · rcases List.mem_cons.1 ((h z).2 (List.mem_cons_of_mem _ hz)) with e | e
      · have := h2.1 z hz
        omega
      · exact e
theorem inc_bits {m k : Nat} (hm : m ≤ 5) {l : List Int} (h : Inc m k l) : ∃ a, a < 2 ^ m ∧ bitsL a = l := by
  obtain ⟨h1, ⟨t0, t1, t2⟩, t3, t4, t5⟩ := msk_ok (decide ((0 : Int) ∈ l)) (decide ((1 : Int) ∈ l)) (decide ((2 : Int) ∈ l)) (decide ((3 : Int) ∈ l)) (decide ((4 : Int) ∈ l)) (decide ((5 : Int) ∈ l))
  generalize msk (decide ((0 : Int) ∈ l)) (decide ((1 : Int) ∈ l)) (decide ((2 : Int) ∈ l)) (decide ((3 : Int) ∈ l)) (decide ((4 : Int) ∈ l)) (decide ((5 : Int) ∈ l)) = a at *
  have e : bitsL a = l := by
    have h6 := (bitsL_lt ⟨5, by omega⟩)
    refine inc_ext ?_ h.2.1 fun x => ?_
    · unfold bitsL bitsB
      refine List.Pairwise.map _ (fun a b h => ?_) (List.Pairwise.filter _ (List.pairwise_lt_range))
      omega
    · unfold bitsL bitsB
      rw [List.mem_map]
      constructor
      · rintro ⟨j, hj, rfl⟩
        rw [List.mem_filter, List.mem_range] at hj
        obtain ⟨hj, hb⟩ := hj
        rcases (show j = 0 ∨ j = 1 ∨ j = 2 ∨ j = 3 ∨ j = 4 ∨ j = 5 by omega) with rfl | rfl | rfl | rfl | rfl | rfl
        · rw [t0] at hb; exact of_decide_eq_true hb
        · rw [t1] at hb; exact of_decide_eq_true hb
        · rw [t2] at hb; exact of_decide_eq_true hb
        · rw [t3] at hb; exact of_decide_eq_true hb
        · rw [t4] at hb; exact of_decide_eq_true hb
        · rw [t5] at hb; exact of_decide_eq_true hb
      · intro hx
        have hb := h.2.2 x hx
        refine ⟨x.toNat, List.mem_filter.2 ⟨List.mem_range.2 (by omega), ?_⟩, by omega⟩
        rcases (show x = 0 ∨ x = 1 ∨ x = 2 ∨ x = 3 ∨ x = 4 by omega) with rfl | rfl | rfl | rfl | rfl
        · exact t0.trans (decide_eq_true hx)
        · exact t1.trans (decide_eq_true hx)
        · exact t2.trans (decide_eq_true hx)
        · exact t3.trans (decide_eq_true hx)
        · exact t4.trans (decide_eq_true hx)
  refine ⟨a, lt_of_bits ⟨m, by omega⟩ ⟨a, h1⟩ (fun x hx => ?_), e⟩
  rw [e] at hx
  exact (h.2.2 x hx).2
theorem prs_mem {m a b x y : Nat} : (x, y) ∈ prs m a b ↔ (x < a ∧ y < 2 ^ m) ∨ (x = a ∧ y < b) := by
  unfold prs
  simp only [List.mem_append, List.mem_flatMap, List.mem_map, List.mem_range, Prod.mk.injEq]
  constructor
  · rintro (⟨x', h1, y', h2, rfl, rfl⟩ | ⟨y', h2, rfl, rfl⟩)
    · exact Or.inl ⟨h1, h2⟩
    · exact Or.inr ⟨rfl, h2⟩
  · rintro (⟨h1, h2⟩ | ⟨rfl, h2⟩)
    · exact Or.inl ⟨x, h1, y, h2, rfl, rfl⟩
    · exact Or.inr ⟨y, h2, rfl, rfl⟩
/-- The common divisor of all minors of size k. -/
def gK (m : Nat) (M : List (List Int)) (k : Nat) : Nat := gOf M k (prs m (2 ^ m) 0)
theorem gK_dvd {m : Nat} (hm : m ≤ 5) (M : List (List Int)) {k : Nat} {rs cs : List Int} (hr : Inc m k rs) (hc : Inc m k cs) : gK m M k ∣ (detL M rs cs).natAbs := by
  obtain ⟨a, ha, rfl⟩ := inc_bits hm hr
  obtain ⟨b, hb, rfl⟩ := inc_bits hm hc
  refine ((gcdF_dvd (mins M k (prs m (2 ^ m) 0)) 0).1 (Nat.dvd_refl _)).2 _ ?_
  unfold mins
  refine List.mem_map.2 ⟨(a, b), List.mem_filter.2 ⟨prs_mem.2 (Or.inl ⟨ha, hb⟩), ?_⟩, rfl⟩
  simp [hr.1, hc.1]
theorem gK_zero {m : Nat} (hm : m ≤ 5) (M : List (List Int)) {k : Nat} : gK m M k = 0 ↔ ∀ rs cs, Inc m k rs → Inc m k cs → detL M rs cs = 0 := by
  constructor
  · intro h rs cs hr hc
    have := gK_dvd hm M hr hc
    rw [h, Nat.zero_dvd] at this
    omega
  · intro h
    refine gcdF_zero.2 fun x hx => ?_
    unfold mins at hx
    obtain ⟨⟨a, b⟩, hp, rfl⟩ := List.mem_map.1 hx
    rw [List.mem_filter] at hp
    have hab := prs_mem.1 hp.1
    have hs := hp.2
    simp only [Bool.and_eq_true, beq_iff_eq] at hs
    have h1 := (bitsL_inc hm (a := a) (by omega)).1
    have h2 := (bitsL_inc hm (a := b) (by omega)).1
    rw [hs.1] at h1
    rw [hs.2] at h2
    exact h _ _ h1 h2
theorem gK_next {m : Nat} (hm : m ≤ 5) (M : List (List Int)) {k : Nat} (h : gK m M k = 0) : gK m M (k + 1) = 0 := (gK_zero hm M).2 fun _ _ hr hc => minors_zero ((gK_zero hm M).1 h) hr hc
theorem gcdF_le {B : Nat} {l : List Int} (h : ∀ x ∈ l, x.natAbs ≤ B) : gcdF l 0 ≤ B := by
  by_cases c : gcdF l 0 = 0
  · omega
  · have h1 : ¬ ∀ x ∈ l, x = 0 := fun x => c (gcdF_zero.2 x)
    have h2 : ∃ x, x ∈ l ∧ x ≠ 0 := Classical.byContradiction fun n => h1 fun x hx => Classical.byContradiction fun y => n ⟨x, hx, y⟩
    obtain ⟨x, hx, hx0⟩ := h2
    exact Nat.le_trans (Nat.le_of_dvd (by omega) (((gcdF_dvd l 0).1 (Nat.dvd_refl _)).2 x hx)) (h x hx)
theorem gOf_le {m : Nat} (hm : m ≤ 5) {M : List (List Int)} (hM : SqOk m M) {L : List (Nat × Nat)} (hL : ∀ p ∈ L, p.1 < 2 ^ m ∧ p.2 < 2 ^ m) (k : Nat) : gOf M k L ≤ 1934917632 := by
  refine gcdF_le fun x hx => ?_
  unfold mins at hx
  obtain ⟨p, hp, rfl⟩ := List.mem_map.1 hx
  rw [List.mem_filter] at hp
  have h1 := (bitsL_inc hm (hL p hp.1).1).2
  have h2 := (bitsL_inc hm (hL p hp.1).2).2
  have := det_bd hM (rs := bitsL p.1) (cs := bitsL p.2) (by omega) (by omega)
  omega
/-- The common divisors of all sizes, some pairs taken in. -/
def gLs (m : Nat) (M : List (List Int)) (L : List (Nat × Nat)) : List Int := (List.range (m + 1)).map fun k => ((gOf M k L : Nat) : Int)
theorem gLs_len (m : Nat) (M : List (List Int)) (L : List (Nat × Nat)) : (gLs m M L).length = m + 1 := by simp [gLs]
theorem gLs_rd {m : Nat} (M : List (List Int)) (L : List (Nat × Nat)) {k : Nat} (hk : k ≤ m) : rd (gLs m M L) (k : Int) = ((gOf M k L : Nat) : Int) := by
  unfold rd gLs
  simp [List.getD, show k < m + 1 by omega]
theorem gLs_set {m : Nat} (M : List (List Int)) (L : List (Nat × Nat)) {p : Nat × Nat} {k : Nat} (h1 : (bitsL p.1).length = k) (h2 : (bitsL p.2).length = k) :
    (gLs m M L).set k ((Nat.gcd (gOf M k L) (detL M (bitsL p.1) (bitsL p.2)).natAbs : Nat) : Int) = gLs m M (L ++ [p]) := by
  refine List.ext_getElem (by simp [gLs]) fun i hi hi' => ?_
  rw [List.getElem_set]
  unfold gLs at hi' ⊢
  rw [List.getElem_map, List.getElem_range, List.getElem_map, List.getElem_range, gOf_app]
  by_cases c : k = i
  · subst c
    rw [if_pos rfl, if_pos ⟨h1, h2⟩]
  · rw [if_neg c, if_neg (fun x => c (h1.symm.trans x.1))]
theorem gLs_skip {m : Nat} (M : List (List Int)) (L : List (Nat × Nat)) {p : Nat × Nat} (h : (bitsL p.2).length ≠ (bitsL p.1).length) : gLs m M L = gLs m M (L ++ [p]) := by
  unfold gLs
  refine List.map_congr_left fun k _ => ?_
  rw [gOf_app, if_neg (fun x => h (x.2.trans x.1.symm))]
/-- The i-th invariant factor. -/
def invF (m : Nat) (M : List (List Int)) (i : Nat) : Int := if gK m M (i + 1) = 0 then 0 else ((gK m M (i + 1) / gK m M i : Nat) : Int)
def invL (m : Nat) (M : List (List Int)) : List Int := (List.range m).map fun i => invF m M i
theorem invL_take (m : Nat) (M : List (List Int)) {i : Nat} (hi : i < m) : (invL m M).take (i + 1) = (invL m M).take i ++ [invF m M i] := by
  rw [List.take_succ_eq_append_getElem (by simp [invL]; exact hi)]
  simp [invL]
theorem gK_le {m : Nat} (hm : m ≤ 5) {M : List (List Int)} (hM : SqOk m M) (k : Nat) : gK m M k ≤ 1934917632 := gOf_le hm hM (fun p hp => by
  have := prs_mem.1 (show (p.1, p.2) ∈ _ from hp)
  omega) k
theorem implInv_l2 {m : Nat} (hm : m ≤ 5) {M : List (List Int)} (hM : SqOk m M) : ∀ (d i : Nat), i + d = m → Ep (fun k => impl_InvariantFactors.l2 k (gLs m M (prs m (2 ^ m) 0)) ((invL m M).take i) (m : Int) (i : Int)) (· = invL m M) := by
  intro d
  induction d with
  | zero =>
    intro i hi
    refine Ep.up ?_
    simp only [impl_InvariantFactors.l2]
    refine Ep.neg (by omega) (Ep.now ?_)
    rw [List.take_of_length_le (by simp [invL]; omega)]
  | succ d ih =>
    intro i hi
    have h := ih (i + 1) (by omega)
    rw [invL_take m M (by omega)] at h
    have hl := gLs_len m M (prs m (2 ^ m) 0)
    have htl : ((invL m M).take i).length ≤ 5 := by rw [List.length_take]; simp [invL]; omega
    have e1 : rd (gLs m M (prs m (2 ^ m) 0)) ((i + 1 : Nat) : Int) = ((gK m M (i + 1) : Nat) : Int) := gLs_rd M _ (by omega)
    have e0 : rd (gLs m M (prs m (2 ^ m) 0)) (i : Int) = ((gK m M i : Nat) : Int) := gLs_rd M _ (by omega)
    have hb := gK_le hm hM (i + 1)
    refine Ep.up ?_
    simp only [impl_InvariantFactors.l2]
    rw [wrap_succ (by omega), e1, e0]
    refine Ep.pos (by omega) (Ep.pos (by omega) (Ep.pos (by omega) ?_))
    unfold invF at h
    by_cases c : gK m M (i + 1) = 0
    · rw [if_pos c] at h
      exact Ep.pos (by omega) (Ep.pos (by omega) h)
    · rw [if_neg c] at h
      have c0 : gK m M i ≠ 0 := fun x => c (gK_next hm M x)
      have hd : gK m M (i + 1) / gK m M i ≤ gK m M (i + 1) := Nat.div_le_self _ _
      have e : wrap64 (Int.tdiv ((gK m M (i + 1) : Nat) : Int) ((gK m M i : Nat) : Int)) = ((gK m M (i + 1) / gK m M i : Nat) : Int) := by
        have e' : Int.tdiv ((gK m M (i + 1) : Nat) : Int) ((gK m M i : Nat) : Int) = ((gK m M (i + 1) / gK m M i : Nat) : Int) := rfl
        rw [e']
        generalize gK m M (i + 1) / gK m M i = z at hd ⊢
        exact wrap_id (by omega) (by omega)
      refine Ep.neg (by omega) (Ep.pos (by omega) (Ep.pos (by omega) (Ep.neg (by omega) (Ep.pos (by omega) ?_))))
      rw [e]
      exact h
theorem implInv_l1 {m : Nat} (hm : m ≤ 5) {M : List (List Int)} (hM : SqOk m M) {a : Nat} (ha : a < 2 ^ m)
    (hn : Ep (fun k => impl_InvariantFactors.l0 k M (gLs m M (prs m (a + 1) 0)) ((a + 1 : Nat) : Int)) (· = invL m M)) :
    ∀ (d b : Nat), b + d = 2 ^ m → Ep (fun k => impl_InvariantFactors.l1 k M (gLs m M (prs m a b)) (a : Int) (bitsL a) (b : Int)) (· = invL m M) := by
  have h32 := Nat.pow_le_pow_right (show 0 < 2 by omega) hm
  have hsh : shl .i64 1 (M.length : Int) = ((2 ^ m : Nat) : Int) := by rw [hM.1]; exact (bm_full (i := m) (by omega)).2.2.1
  intro d
  induction d with
  | zero =>
    intro b hb
    refine Ep.up ?_
    simp only [impl_InvariantFactors.l1]
    rw [hsh]
    refine Ep.neg (by omega) ?_
    rw [wrap_succ (by omega), show b = 2 ^ m by omega, prs_next]
    exact hn
  | succ d ih =>
    intro b hb
    have h := ih (b + 1) (by omega)
    rw [prs_succ] at h
    refine Ep.up ?_
    simp only [impl_InvariantFactors.l1]
    rw [hsh]
    refine Ep.pos (by omega) (Ep.bind (implBits (m := b) (by omega)) ?_)
    rintro _ rfl
    rw [wrap_succ (by omega)]
    have hia := bitsL_inc hm ha
    by_cases c : (bitsL b).length = (bitsL a).length
    · have hl := gLs_len m M (prs m a b)
      have hdb := det_bd hM (rs := bitsL a) (cs := bitsL b) (by omega) (by omega)
      have hg := gOf_le hm hM (L := prs m a b) (fun p hp => by
        have := prs_mem.1 (show (p.1, p.2) ∈ _ from hp)
        omega) (bitsL a).length
      refine Ep.pos (by omega) (Ep.pos (by omega) (Ep.pos (by omega) (Ep.bind (implDet hm hM (bitsL a) (by omega) hia.1.2.2 b (by omega)) ?_)))
      rintro _ rfl
      rw [gLs_rd M _ hia.2]
      refine Ep.bind (implDivisor_f (by omega) (by omega)) ?_
      rintro _ rfl
      rw [Int.toNat_natCast, Int.natAbs_natCast, gLs_set M (prs m a b) (p := (a, b)) rfl c]
      exact h
    · refine Ep.neg (by omega) ?_
      rw [← gLs_skip M (prs m a b) (p := (a, b)) c] at h
      exact h
theorem implInv_l0 {m : Nat} (hm : m ≤ 5) {M : List (List Int)} (hM : SqOk m M) : ∀ (d a : Nat), a + d = 2 ^ m → Ep (fun k => impl_InvariantFactors.l0 k M (gLs m M (prs m a 0)) (a : Int)) (· = invL m M) := by
  have h32 := Nat.pow_le_pow_right (show 0 < 2 by omega) hm
  have hsh : shl .i64 1 (M.length : Int) = ((2 ^ m : Nat) : Int) := by rw [hM.1]; exact (bm_full (i := m) (by omega)).2.2.1
  intro d
  induction d with
  | zero =>
    intro a ha
    refine Ep.up ?_
    simp only [impl_InvariantFactors.l0]
    rw [hsh]
    refine Ep.neg (by omega) ?_
    rw [hM.1, show a = 2 ^ m by omega]
    exact implInv_l2 hm hM m 0 (by omega)
  | succ d ih =>
    intro a ha
    have h := ih (a + 1) (by omega)
    refine Ep.up ?_
    simp only [impl_InvariantFactors.l0]
    rw [hsh]
    refine Ep.pos (by omega) (Ep.bind (implBits (m := a) (by omega)) ?_)
    rintro _ rfl
    exact implInv_l1 hm hM (by omega) h (2 ^ m) 0 (by omega)
theorem implInvariant {m : Nat} (hm : m ≤ 5) {M : List (List Int)} (hM : SqOk m M) : Ep (fun k => impl_InvariantFactors.f k M) (· = invL m M) := by
  simp only [impl_InvariantFactors.f]
  refine Ep.bind (implMatrixOk hm hM) ?_
  rintro _ rfl
  refine Ep.pos rfl (Ep.up ?_)
  simp only [impl_InvariantFactors.j0]
  rw [hM.1]
  by_cases c : m = 0
  · subst c
    refine Ep.pos (by simp) (Ep.now ?_)
    rfl
  · refine Ep.neg (by simp; omega) ?_
    rw [wrap_succ (by omega)]
    refine Ep.pos (by omega) (Ep.pos (by omega) ?_)
    rw [Int.toNat_natCast]
    have e : List.replicate (m + 1) (0 : Int) = gLs m M (prs m 0 0) := by
      refine List.ext_getElem (by simp [gLs]) fun i h1 h2 => ?_
      simp [gLs, gOf, mins, prs, gcdF]
    rw [e]
    exact implInv_l0 hm hM (2 ^ m) 0 (by omega)
def factL (L : List Int) : List Int := L.filter fun x => decide (x > 1)
theorem implGF_l0 (L : List Int) (hL : L.length ≤ 100) : ∀ (d i : Nat), i + d = L.length → Ep (fun k => impl_GroupFactors.l0 k (factL (L.take i)) L (L.length : Int) (i : Int)) (· = factL L) := by
  intro d
  induction d with
  | zero =>
    intro i hi
    refine Ep.up ?_
    simp only [impl_GroupFactors.l0]
    refine Ep.neg (by omega) (Ep.now ?_)
    rw [List.take_of_length_le (by omega)]
  | succ d ih =>
    intro i hi
    have h := ih (i + 1) (by omega)
    have hlt : i < L.length := by omega
    have e : rd L (i : Int) = L[i] := by
      unfold rd
      rw [Int.toNat_natCast, List.getD_eq_getElem?_getD, List.getElem?_eq_getElem hlt]
      rfl
    have hl : (factL (L.take i)).length ≤ 100 := Nat.le_trans (List.length_filter_le _ _) (by rw [List.length_take]; omega)
    unfold factL at h
    rw [List.take_succ_eq_append_getElem hlt, List.filter_append] at h
    refine Ep.up ?_
    simp only [impl_GroupFactors.l0]
    refine Ep.pos (by omega) (Ep.pos (by omega) (Ep.pos (by omega) ?_))
    rw [e, wrap_succ (by omega)]
    by_cases c : L[i] > 1
    · rw [List.filter_cons_of_pos (by simpa using c)] at h
      exact Ep.pos c (Ep.pos (by omega) h)
    · rw [List.filter_cons_of_neg (by simpa using c), List.filter_nil, List.append_nil] at h
      exact Ep.neg c h
theorem implGroupFactors {n : Nat} {es : List E} (hg : GOk (n : Int) es) : Ep (fun k => impl_GroupFactors.f k (n : Int) es) (· = factL (invL (n - 1) (redM n es 0))) := by
  have hG := hg.1
  unfold EsOk at hG
  simp only [impl_GroupFactors.f]
  refine Ep.bind0 (implGraph _ _) ?_
  rw [gOk_iff.2 hg]
  refine Ep.pos rfl (Ep.bind (implRL hg (q := 0) (by omega)) ?_)
  rintro _ rfl
  refine Ep.bind (implInvariant (by omega) (redM_sq (q := 0) (by omega) hG.2.2.1)) ?_
  rintro _ rfl
  exact implGF_l0 (invL (n - 1) (redM n es 0)) (by simp [invL]; omega) (invL (n - 1) (redM n es 0)).length 0 (by omega)
theorem lapRow_take {n : Nat} (es : List E) (a : Int) {v : Nat} (hv : v < n) : (lapRow n es a).take (v + 1) = (lapRow n es a).take v ++ [lapM es a (v : Int)] := by
  rw [List.take_succ_eq_append_getElem (by unfold lapRow; rw [repL_len]; exact hv)]
  unfold lapRow repL
  simp
theorem lapRow_len (n : Nat) (es : List E) (a : Int) : (lapRow n es a).length = n := by unfold lapRow; rw [repL_len]
theorem specLap_l1 {n : Nat} {es : List E} (hes : ∀ e ∈ es, EOk n e) (hel : es.length ≤ 12) (hn : n ≤ 6) {M : List (List Int)} (hM : M.length ≤ 6) {v : Nat} (hv : v < n) {Q : List (List Int) → Prop}
    (hQ : Ep (fun k => spec_LaplacianOf.l0 k (M ++ [lapRow n es (v : Int)]) ((v + 1 : Nat) : Int) (n : Int) es) Q) : ∀ (d i : Nat), i + d = n →
    Ep (fun k => spec_LaplacianOf.l1 k M (v : Int) ((lapRow n es (v : Int)).take i) (i : Int) (n : Int) es) Q := by
  intro d
  induction d with
  | zero =>
    intro i hi
    refine Ep.up ?_
    simp only [spec_LaplacianOf.l1]
    refine Ep.neg (by omega) (Ep.pos (by omega) ?_)
    rw [wrap_succ (by omega), List.take_of_length_le (by rw [lapRow_len]; omega)]
    exact hQ
  | succ d ih =>
    intro i hi
    have h := ih (i + 1) (by omega)
    rw [lapRow_take es _ (by omega)] at h
    have hl : ((lapRow n es (v : Int)).take i).length ≤ 6 := by rw [List.length_take, lapRow_len]; omega
    refine Ep.up ?_
    simp only [spec_LaplacianOf.l1]
    refine Ep.pos (by omega) ?_
    rw [wrap_succ (by omega)]
    by_cases c : v = i
    · refine Ep.pos (by omega) (Ep.bind (specValence _ es _ (by omega)) ?_)
      rintro _ rfl
      refine Ep.pos (by omega) ?_
      rw [valG_in ⟨by omega, by omega⟩]
      have e : lapM es (v : Int) (i : Int) = val es (v : Int) := by
        unfold lapM
        rw [if_pos (by omega)]
      rw [e] at h
      exact h
    · refine Ep.neg (by omega) (Ep.bind (specMult _ es hes hel _ _ ⟨by omega, by omega⟩ ⟨by omega, by omega⟩) ?_)
      rintro _ rfl
      have hm0 := mult_nonneg es (v : Int) (i : Int)
      have hm1 := mult_le es (v : Int) (i : Int)
      refine Ep.pos (by omega) ?_
      have e : lapM es (v : Int) (i : Int) = - mult es (v : Int) (i : Int) := by
        unfold lapM
        rw [if_neg (by omega)]
      rw [e] at h
      rw [wrap_id (by omega) (by omega)]
      exact h
theorem specLap_l0 {n : Nat} {es : List E} (hes : ∀ e ∈ es, EOk n e) (hel : es.length ≤ 12) (hn : n ≤ 6) : ∀ (d v : Nat), v + d = n → Ep (fun k => spec_LaplacianOf.l0 k ((lapL n es).take v) (v : Int) (n : Int) es) (· = lapL n es) := by
  intro d
  induction d with
  | zero =>
    intro v hv
    refine Ep.up ?_
    simp only [spec_LaplacianOf.l0]
    refine Ep.neg (by omega) (Ep.now ?_)
    rw [List.take_of_length_le (by rw [lapL_len]; omega)]
  | succ d ih =>
    intro v hv
    have h1 := ih (v + 1) (by omega)
    rw [lapL_take es (by omega)] at h1
    refine Ep.up ?_
    simp only [spec_LaplacianOf.l0]
    refine Ep.pos (by omega) ?_
    exact specLap_l1 hes hel hn (by rw [List.length_take]; omega) (by omega) h1 n 0 (by omega)
theorem specLap {n : Nat} {es : List E} (hg : GOk (n : Int) es) : Ep (fun k => spec_LaplacianOf.f k (n : Int) es) (· = lapL n es) := by
  have hG := hg.1
  unfold EsOk at hG
  simp only [spec_LaplacianOf.f]
  refine Ep.bind (specGraph _ _) ?_
  rintro _ rfl
  refine Ep.pos (gOk_iff.2 hg) ?_
  have := specLap_l0 (n := n) hG.2.2.2 hG.2.2.1 (by omega) n 0 (by omega)
  simpa using this
theorem specRL {n : Nat} {es : List E} (hg : GOk (n : Int) es) {q : Nat} (hq : q < n) : Ep (fun k => spec_ReducedLaplacian.f k (n : Int) es (q : Int)) (· = redM n es q) := by
  have hG := hg.1
  unfold EsOk at hG
  simp only [spec_ReducedLaplacian.f]
  refine Ep.bind (specGraph _ _) ?_
  rintro _ rfl
  refine Ep.pos (gOk_iff.2 hg) ?_
  rw [wrap_id (x := (n : Int) - 1) (by omega) (by omega)]
  refine Ep.bind0 (l01In_eq _ _ _) ?_
  refine Ep.pos (by simp; omega) ?_
  refine Ep.bind (specLap hg) ?_
  rintro _ rfl
  have hr : ∀ r ∈ lapL n es, r.length = n := fun r hr => by
    unfold lapL at hr
    obtain ⟨i, _, rfl⟩ := List.mem_map.1 hr
    exact lapRow_len n es _
  refine Ep.pos (fun r h => by rw [hr r h]; omega) ?_
  have e : redF (q : Int) (lapL n es) = some (redM n es q) := by
    unfold redF
    rw [if_pos, Int.toNat_natCast, keep_red]
    exact ⟨by omega, by omega, by rw [lapL_len]; omega, fun r h => by rw [hr r h]; omega⟩
  exact Ep.congr (fun _ => e) (Ep.now rfl)
theorem row_at {m : Nat} {M : List (List Int)} (hM : SqOk m M) {i : Nat} (hi : i < m) : rd_L3 M (i : Int) ∈ M := by
  unfold rd_L3
  rw [Int.toNat_natCast, List.getD_eq_getElem?_getD, List.getElem?_eq_getElem (by have := hM.1; omega)]
  exact List.getElem_mem _
theorem specMat_l1 {m : Nat} (hm : m ≤ 5) {M : List (List Int)} (hM : SqOk m M) {i : Nat} (hi : i < m) {r : List Int} (hr : r ∈ M) (hn : Ep (fun k => spec_MatrixOk.l0 k M M (m : Int) ((i + 1 : Nat) : Int)) (· = true)) :
    ∀ (d j : Nat), j + d = m → Ep (fun k => spec_MatrixOk.l1 k M M (m : Int) (i : Int) r (m : Int) (j : Int)) (· = true) := by
  have hl := hM.2.1 r hr
  intro d
  induction d with
  | zero =>
    intro j hj
    refine Ep.up ?_
    simp only [spec_MatrixOk.l1]
    refine Ep.neg (by omega) ?_
    rw [wrap_succ (by omega)]
    exact hn
  | succ d ih =>
    intro j hj
    have hb := rd_bd (hM.2.2 r hr) (j : Int)
    refine Ep.up ?_
    simp only [spec_MatrixOk.l1]
    refine Ep.pos (by omega) (Ep.pos (by omega) (Ep.pos (by omega) (Ep.bind0 (l01In_eq _ _ _) (Ep.pos (by simp; omega) ?_))))
    rw [wrap_succ (by omega)]
    exact ih (j + 1) (by omega)
theorem specMat_l0 {m : Nat} (hm : m ≤ 5) {M : List (List Int)} (hM : SqOk m M) : ∀ (d i : Nat), i + d = m → Ep (fun k => spec_MatrixOk.l0 k M M (m : Int) (i : Int)) (· = true) := by
  have hM1 := hM.1
  intro d
  induction d with
  | zero =>
    intro i hi
    refine Ep.up ?_
    simp only [spec_MatrixOk.l0]
    exact Ep.neg (by omega) (Ep.now rfl)
  | succ d ih =>
    intro i hi
    have hr := row_at hM (i := i) (by omega)
    have hl := hM.2.1 _ hr
    refine Ep.up ?_
    simp only [spec_MatrixOk.l0]
    refine Ep.pos (by omega) (Ep.pos (by omega) (Ep.pos (by omega) (Ep.pos (by omega) ?_)))
    rw [hl]
    exact specMat_l1 hm hM (by omega) hr (ih (i + 1) (by omega)) m 0 (by omega)
theorem specMatrixOk {m : Nat} (hm : m ≤ 5) {M : List (List Int)} (hM : SqOk m M) : Ep (fun k => spec_MatrixOk.f k M) (· = true) := by
  have hM1 := hM.1
  simp only [spec_MatrixOk.f]
  refine Ep.neg (by omega) ?_
  rw [hM1]
  exact specMat_l0 hm hM m 0 (by omega)
theorem mx_abs {x : Int} (h0 : -4611686018427387904 ≤ x) (h1 : x ≤ 4611686018427387904) : mx x (wrap64 (-x)) = (x.natAbs : Int) := by
  rw [wrap_id (by omega) (by omega)]
  unfold mx
  split <;> omega
theorem specGcd_l0 : ∀ (d a b : Nat), b ≤ d → Ep (fun k => spec_l03Gcd.l0 k (a : Int) (b : Int)) (· = ((Nat.gcd a b : Nat) : Int)) := by
  intro d
  induction d with
  | zero =>
    intro a b hb
    refine Ep.up ?_
    simp only [spec_l03Gcd.l0]
    refine Ep.pos (by omega) (Ep.now ?_)
    rw [show b = 0 by omega, Nat.gcd_zero_right]
  | succ d ih =>
    intro a b hb
    refine Ep.up ?_
    simp only [spec_l03Gcd.l0]
    by_cases c : b = 0
    · refine Ep.pos (by omega) (Ep.now ?_)
      rw [c, Nat.gcd_zero_right]
    · refine Ep.neg (by omega) ?_
      have e : Int.tmod (a : Int) (b : Int) = ((a % b : Nat) : Int) := rfl
      have hlt : a % b < b := Nat.mod_lt _ (by omega)
      rw [e]
      refine (ih b (a % b) (by omega)).mono fun v hv => ?_
      rw [hv, Nat.gcd_comm a b, Nat.gcd_rec b a, Nat.gcd_comm]
theorem specGcd {x y : Int} (hx : -4611686018427387904 ≤ x ∧ x ≤ 4611686018427387904) (hy : -4611686018427387904 ≤ y ∧ y ≤ 4611686018427387904) : Ep (fun k => spec_l03Gcd.f k x y) (· = ((Nat.gcd x.natAbs y.natAbs : Nat) : Int)) := by
  simp only [spec_l03Gcd.f]
  rw [mx_abs hx.1 hx.2, mx_abs hy.1 hy.2]
  exact specGcd_l0 _ _ _ (Nat.le_refl _)
theorem specDet_l0 {m : Nat} (hm : m ≤ 5) {M : List (List Int)} (hM : SqOk m M) {r : Int} {rs : List Int} (hr : 0 ≤ r ∧ r < m) (hrs : rs.length ≤ 4) {cs : List Int} (hcs : cs.length ≤ 6) (hc : ∀ c ∈ cs, 0 ≤ c ∧ c < (m : Int))
    (ih : ∀ cs' : List Int, cs'.length ≤ 6 → (∀ c ∈ cs', 0 ≤ c ∧ c < (m : Int)) → Ep (fun k => spec_l03Det.f k M rs cs') (· = detL M rs cs')) :
    ∀ (d p : Nat) (s σ : Int), p + d = cs.length → (σ = 1 ∨ σ = -1) → (-(p * 23219011584 : Int) ≤ s ∧ s ≤ p * 23219011584) →
      Ep (fun k => spec_l03Det.l0 k M (r :: rs) cs s σ cs (cs.length : Int) (p : Int))
        (· = s + σ * alt (cs.length - p) fun i => ent M r (cs.getD (p + i) 0) * detL M rs (cs.eraseIdx (p + i))) := by
  have hM1 := hM.1
  have hrow : (rd_L3 M r).length = m := by
    unfold rd_L3
    rw [List.getD_eq_getElem?_getD, List.getElem?_eq_getElem (by have := hM.1; omega)]
    exact hM.2.1 _ (List.getElem_mem _)
  intro d
  induction d with
  | zero =>
    intro p s σ hp hσ hs
    refine Ep.up ?_
    simp only [spec_l03Det.l0]
    refine Ep.neg (by omega) (Ep.now ?_)
    rw [show cs.length - p = 0 by omega]
    simp [alt]
  | succ d ihd =>
    intro p s σ hp hσ hs
    have hlt : p < cs.length := by omega
    have e0 : rd (r :: rs) 0 = r := rfl
    have ec : rd cs (p : Int) = cs[p] := by
      rw [rd_nat, List.getD_eq_getElem?_getD, List.getElem?_eq_getElem hlt]
      rfl
    have hcp := hc _ (List.getElem_mem hlt)
    have eg : cs.getD p 0 = cs[p] := by
      rw [List.getD_eq_getElem?_getD, List.getElem?_eq_getElem hlt]
      rfl
    have hent : rd (rd_L3 M r) (cs[p]) = ent M r (cs.getD p 0) := by rw [eg]; rfl
    have hbd := hM.ent r (cs.getD p 0)
    have hle : (cs.eraseIdx p).length ≤ 6 := by rw [List.length_eraseIdx]; split <;> omega
    have hdb := det_bd hM (rs := rs) (cs := cs.eraseIdx p) (by omega) hle
    have hsplit : cs.length - p = (cs.length - (p + 1)) + 1 := by omega
    have hneg : wrap64 (-σ) = -σ := wrap_id (by omega) (by omega)
    refine Ep.up ?_
    simp only [spec_l03Det.l0]
    rw [e0, ec, hent, hneg, wrap_succ (by omega)]
    refine Ep.pos (by omega) (Ep.pos (by omega) (Ep.pos (by omega) (Ep.pos (by rw [List.length_cons]; omega) (Ep.pos (by omega) (Ep.pos (by omega) (Ep.pos (by omega) (Ep.pos (by omega) ?_)))))))
    rw [hsplit, alt_shift _ (fun i => ent M r (cs.getD i 0) * detL M rs (cs.eraseIdx i))]
    by_cases hz : ent M r (cs.getD p 0) = 0
    · refine Ep.pos hz ?_
      refine (ihd (p + 1) s (-σ) (by omega) (by omega) (by omega)).mono fun v hv => ?_
      rw [hv, hz, Int.zero_mul, Int.zero_sub, Int.mul_neg, Int.neg_mul]
    · refine Ep.neg hz (Ep.bind0 rfl (Ep.pos (by omega) (Ep.pos (by simp only [List.length_nil, List.length_take]; omega) (Ep.bind0 rfl (Ep.pos (by omega) (Ep.pos (by omega) (Ep.pos (by simp only [List.nil_append, List.length_take, List.length_drop]; omega) (Ep.pos (by rw [List.length_cons]; omega) ?_))))))))
      rw [List.nil_append, Int.toNat_natCast, Int.toNat_natCast, ← List.eraseIdx_eq_take_drop_succ, show (r :: rs).drop 1 = rs from rfl]
      refine Ep.bind (ih _ hle fun c h => hc c (List.mem_of_mem_eraseIdx h)) ?_
      rintro _ rfl
      have hprod := mul_bd hbd hdb
      have e5 : wrap64 (σ * ent M r (cs.getD p 0)) = σ * ent M r (cs.getD p 0) := by
        rcases hσ with rfl | rfl
        · exact wrap_id (by omega) (by omega)
        · exact wrap_id (by omega) (by omega)
      have e6 : σ * ent M r (cs.getD p 0) * detL M rs (cs.eraseIdx p) = σ * (ent M r (cs.getD p 0) * detL M rs (cs.eraseIdx p)) := Int.mul_assoc _ _ _
      have hb2 : -(23219011584 : Int) ≤ σ * (ent M r (cs.getD p 0) * detL M rs (cs.eraseIdx p)) ∧ σ * (ent M r (cs.getD p 0) * detL M rs (cs.eraseIdx p)) ≤ 23219011584 := by
        rcases hσ with rfl | rfl <;> omega
      rw [e5, e6]
      have e7 : wrap64 (σ * (ent M r (cs.getD p 0) * detL M rs (cs.eraseIdx p))) = σ * (ent M r (cs.getD p 0) * detL M rs (cs.eraseIdx p)) := wrap_id (by omega) (by omega)
      have e8 : wrap64 (s + σ * (ent M r (cs.getD p 0) * detL M rs (cs.eraseIdx p))) = s + σ * (ent M r (cs.getD p 0) * detL M rs (cs.eraseIdx p)) := wrap_id (by omega) (by omega)
      rw [e7, e8]
      refine (ihd (p + 1) _ (-σ) (by omega) (by omega) (by omega)).mono fun v hv => ?_
      rw [hv, Int.mul_sub, Int.neg_mul]
      omega
theorem specDet {m : Nat} (hm : m ≤ 5) {M : List (List Int)} (hM : SqOk m M) : ∀ (rs : List Int), rs.length ≤ 5 → (∀ r ∈ rs, 0 ≤ r ∧ r < (m : Int)) → ∀ cs : List Int, cs.length ≤ 6 → (∀ c ∈ cs, 0 ≤ c ∧ c < (m : Int)) → Ep (fun k => spec_l03Det.f k M rs cs) (· = detL M rs cs)
  | [], _, _, cs, _, _ => by
    refine Ep.up ?_
    simp only [spec_l03Det.f]
    exact Ep.pos rfl (Ep.now rfl)
  | r :: rs, hl, hr, cs, hcl, hc => by
    have hr0 := hr r List.mem_cons_self
    have ih := specDet hm hM rs (by simp at hl; omega) (fun x hx => hr x (List.mem_cons_of_mem _ hx))
    refine Ep.up ?_
    simp only [spec_l03Det.f]
    refine Ep.neg (by rw [List.length_cons]; omega) ?_
    refine (specDet_l0 hm hM hr0 (by simp at hl; omega) hcl hc ih cs.length 0 0 1 (by omega) (Or.inl rfl) (by omega)).mono fun v hv => ?_
    rw [hv]
    simp only [Nat.sub_zero, Nat.zero_add, Int.zero_add, Int.one_mul]
    rfl
theorem sets_inc {n k : Nat} {s : List Int} : s ∈ setsN n k ↔ Inc n k s := by
  induction k generalizing s with
  | zero =>
    rw [setsN, List.mem_singleton]
    constructor
    · rintro rfl
      exact ⟨rfl, List.Pairwise.nil, fun x hx => by cases hx⟩
    · intro h
      exact List.length_eq_zero_iff.1 h.1
  | succ k ih =>
    rw [setsN, List.mem_flatMap]
    constructor
    · rintro ⟨t, ht, h⟩
      have hi := ih.1 ht
      unfold extS at h
      obtain ⟨d, hd, rfl⟩ := List.mem_map.1 h
      rw [List.mem_range] at hd
      refine ⟨by rw [List.length_append, hi.1]; rfl, ?_, fun x hx => ?_⟩
      · rw [List.pairwise_append]
        refine ⟨hi.2.1, List.pairwise_singleton _ _, fun a ha b hb => ?_⟩
        rw [List.mem_singleton] at hb
        subst hb
        have := fst_gt hi.2.1 (fun x hx => (hi.2.2 x hx).1) ha
        omega
      · rcases List.mem_append.1 hx with hx | hx
        · exact hi.2.2 x hx
        · rw [List.mem_singleton] at hx
          omega
    · intro h
      have hne : s ≠ [] := fun e => by have := h.1; rw [e] at this; simp at this
      have hs := List.dropLast_concat_getLast hne
      have hp := h.2.1
      rw [← hs, List.pairwise_append] at hp
      have hlast := h.2.2 _ (List.getLast_mem hne)
      have hi : Inc n k s.dropLast := ⟨by rw [List.length_dropLast, h.1]; rfl, hp.1, fun x hx => h.2.2 x (List.dropLast_subset _ hx)⟩
      refine ⟨s.dropLast, ih.2 hi, ?_⟩
      have hf : (fstS s.dropLast : Int) ≤ s.getLast hne := by
        rcases fst_or s.dropLast (fun x hx => (hi.2.2 x hx).1) with e | ⟨x, hx, e⟩
        · rw [e]; omega
        · rw [e]
          have := hp.2.2 x hx _ (List.mem_singleton.2 rfl)
          omega
      unfold extS
      refine List.mem_map.2 ⟨(s.getLast hne).toNat - fstS s.dropLast, List.mem_range.2 (by omega), ?_⟩
      rw [show ((fstS s.dropLast + ((s.getLast hne).toNat - fstS s.dropLast) : Nat) : Int) = s.getLast hne by omega]
      exact hs
end Go.Proofs.Ytkcbinohpdhbgaa.Cf
end

section
namespace Go.Proofs.Ytkcbinohpdhbgaa.P
open Go.RowKit Go.Proofs.YtkcbinohpdhbgaaW.PrintWords Go.Proofs.YtkcbinohpdhbgaaW.PrintLast Go.Proofs.YtkcbinohpdhbgaaW.PrintMore
attribute [local go_sem] max2_int min2_int max_two min_two max_three min_three max_four min_four
set_option linter.unusedVariables false
set_option linter.unusedSimpArgs false
def spec_IsCyclic.f (k : Nat) (a0_0 : Int) (l0_1 : List (S76)) : Option (Bool) := (spec_GraphOk.f k a0_0 l0_1).bind fun t102 => (if t102 = true then ((spec_GroupFactors.f k a0_0 l0_1).bind fun t103 => (some (decide ((t103.length : Int) ≤ 1)))) else (some false))
theorem spec_IsCyclic.mono : ∀ a0 a1 k, LeO (spec_IsCyclic.f k a0 a1) (spec_IsCyclic.f (k + 1) a0 a1) := by
 intro a0 a1 k; unfold spec_IsCyclic.f; repeat' first | (with_reducible apply spec_GraphOk.mono) | (with_reducible apply spec_GroupFactors.mono) | (with_reducible exact LeO.refl _) | (with_reducible exact LeO.none _) | (with_reducible refine LeO.ite ?_ ?_) | (with_reducible refine LeO.bind ?_ (fun _ => ?_)) | apply spec_GraphOk.mono | apply spec_GroupFactors.mono | exact LeO.none _ | refine LeO.ite ?_ ?_ | refine LeO.bind ?_ (fun _ => ?_)
def impl_IsCyclic.f (k : Nat) (a0_0 : Int) (l0_1 : List (S76)) : Option (Bool) := (impl_GraphOk.f a0_0 l0_1).bind fun t102 => (if t102 = true then ((impl_GroupFactors.f k a0_0 l0_1).bind fun t103 => (some (decide ((t103.length : Int) ≤ 1)))) else (some false))
theorem impl_IsCyclic.mono : ∀ a0 a1 k, LeO (impl_IsCyclic.f k a0 a1) (impl_IsCyclic.f (k + 1) a0 a1) := by
 intro a0 a1 k; unfold impl_IsCyclic.f; repeat' first | (with_reducible apply impl_GroupFactors.mono) | (with_reducible exact LeO.refl _) | (with_reducible exact LeO.none _) | (with_reducible refine LeO.ite ?_ ?_) | (with_reducible refine LeO.bind ?_ (fun _ => ?_)) | apply impl_GroupFactors.mono | exact LeO.none _ | refine LeO.ite ?_ ?_ | refine LeO.bind ?_ (fun _ => ?_)
end Go.Proofs.Ytkcbinohpdhbgaa.P
end

section
namespace Go.Proofs.Ytkcbinohpdhbgaa.Cf
set_option linter.unusedVariables false
set_option linter.unusedSimpArgs false
open Go.RowKit Go.Proofs.YtkcbinohpdhbgaaW.PrintWords Go.Proofs.Ytkcbinohpdhbgaa.P
theorem gcdF_two (l l' : List Int) (a : Nat) : gcdF (l ++ l') a = gcdF l' (gcdF l a) := by
  unfold gcdF
  rw [List.foldl_append]
/-- All minors of a size, rows by rows. -/
def minS (M : List (List Int)) (S : List (List Int)) (i : Nat) : List Int := (S.take i).flatMap fun r => S.map fun c => detL M r c
theorem minS_succ (M : List (List Int)) {S : List (List Int)} {i : Nat} {r : List Int} (h : S[i]? = some r) : minS M S (i + 1) = minS M S i ++ S.map fun c => detL M r c := by
  unfold minS
  rw [List.take_add_one, h, List.flatMap_append]
  simp
theorem minS_gcd {m k : Nat} (hm : m ≤ 5) (M : List (List Int)) : gcdF (minS M (setsN m k) (setsN m k).length) 0 = gK m M k := by
  unfold gK gOf
  refine gcdF_same fun x => ?_
  unfold minS mins
  rw [List.take_length, List.mem_flatMap]
  constructor
  · rintro ⟨r, hr, hx⟩
    obtain ⟨c, hc, rfl⟩ := List.mem_map.1 hx
    have ir := sets_inc.1 hr
    have ic := sets_inc.1 hc
    obtain ⟨a, ha, rfl⟩ := inc_bits hm ir
    obtain ⟨b, hb, rfl⟩ := inc_bits hm ic
    refine List.mem_map.2 ⟨(a, b), List.mem_filter.2 ⟨prs_mem.2 (Or.inl ⟨ha, hb⟩), ?_⟩, rfl⟩
    simp [ir.1, ic.1]
  · intro hx
    obtain ⟨⟨a, b⟩, hp, rfl⟩ := List.mem_map.1 hx
    rw [List.mem_filter] at hp
    have hab := prs_mem.1 hp.1
    have hs := hp.2
    simp only [Bool.and_eq_true, beq_iff_eq] at hs
    have h1 := (bitsL_inc hm (a := a) (by omega)).1
    have h2 := (bitsL_inc hm (a := b) (by omega)).1
    rw [hs.1] at h1
    rw [hs.2] at h2
    exact ⟨_, sets_inc.2 h1, List.mem_map.2 ⟨_, sets_inc.2 h2, rfl⟩⟩
theorem inc_bd {m k : Nat} {s : List Int} (h : s ∈ setsN m k) : s.length = k ∧ ∀ x ∈ s, 0 ≤ x ∧ x < (m : Int) := setsN_ok h
theorem specInv_l2 {m : Nat} (hm : m ≤ 5) {M : List (List Int)} (hM : SqOk m M) {k : Nat} (hk : k ≤ m) {out : List Int} {bf : Int} {i g : Nat} (hg : g ≤ 1934917632) {r : List Int} (hr : r ∈ setsN m k) {Q : List Int → Prop}
    (hn : ∀ g' : Nat, g' ≤ 1934917632 → g' = gcdF ((setsN m k).map fun c => detL M r c) g → Ep (fun f => spec_InvariantFactors.l1 f M out bf (k : Int) (g' : Int) (setsN m k) (setsN m k) ((setsN m k).length : Int) ((i + 1 : Nat) : Int)) Q) (hi : i < (setsN m k).length) :
    ∀ (d j g' : Nat), j + d = (setsN m k).length → g' ≤ 1934917632 → g' = gcdF (((setsN m k).take j).map fun c => detL M r c) g → Ep (fun f => spec_InvariantFactors.l2 f M out bf (k : Int) (g' : Int) (setsN m k) r (setsN m k) ((setsN m k).length : Int) (i : Int) (setsN m k) ((setsN m k).length : Int) (j : Int)) Q := by
  have hrb := inc_bd hr
  have hS := setsN_len6 (n := m) (by omega) (k := k) (by omega)
  intro d
  induction d with
  | zero =>
    intro j g' hj hg' he
    refine Ep.up ?_
    simp only [spec_InvariantFactors.l2]
    refine Ep.neg (by omega) ?_
    rw [wrap_succ (by omega)]
    rw [List.take_of_length_le (by omega)] at he
    exact hn g' hg' he
  | succ d ih =>
    intro j g' hj hg' he
    have hlt : j < (setsN m k).length := by omega
    have hcj := inc_bd (List.getElem_mem hlt)
    have ec : rd_L3 (setsN m k) (j : Int) = (setsN m k)[j] := by
      unfold rd_L3
      rw [Int.toNat_natCast, List.getD_eq_getElem?_getD, List.getElem?_eq_getElem hlt]
      rfl
    have hdb := det_bd hM (rs := r) (cs := (setsN m k)[j]) (by omega) (by omega)
    refine Ep.up ?_
    simp only [spec_InvariantFactors.l2]
    refine Ep.pos (by omega) (Ep.pos (by omega) (Ep.pos (by omega) ?_))
    rw [ec, wrap_succ (by omega)]
    refine Ep.bind (specDet hm hM r (by omega) hrb.2 _ (by omega) hcj.2) ?_
    rintro _ rfl
    refine Ep.bind (specGcd (by omega) (by omega)) ?_
    rintro _ rfl
    rw [Int.natAbs_natCast]
    refine ih (j + 1) _ (by omega) ?_ ?_
    · by_cases c : g' = 0
      · rw [c, Nat.gcd_zero_left]; omega
      · exact Nat.le_trans (Nat.gcd_le_left _ (by omega)) hg'
    · rw [List.take_succ_eq_append_getElem hlt, List.map_append, gcdF_two, ← he]
      rfl
theorem specInv_l1 {m : Nat} (hm : m ≤ 5) {M : List (List Int)} (hM : SqOk m M) {k : Nat} (hk : k + 1 ≤ m)
    (hn : Ep (fun f => spec_InvariantFactors.l0 f M ((invL m M).take (k + 1)) ((gK m M (k + 1) : Nat) : Int) ((k + 1 + 1 : Nat) : Int)) (· = invL m M)) :
    ∀ (d i g : Nat), i + d = (setsN m (k + 1)).length → g ≤ 1934917632 → g = gcdF (minS M (setsN m (k + 1)) i) 0 → Ep (fun f => spec_InvariantFactors.l1 f M ((invL m M).take k) ((gK m M k : Nat) : Int) ((k + 1 : Nat) : Int) (g : Int) (setsN m (k + 1)) (setsN m (k + 1)) ((setsN m (k + 1)).length : Int) (i : Int)) (· = invL m M) := by
  have hS := setsN_len6 (n := m) (by omega) (k := k + 1) (by omega)
  intro d
  induction d with
  | zero =>
    intro i g hi hg he
    have htl : ((invL m M).take k).length ≤ 5 := by rw [List.length_take]; simp [invL]; omega
    rw [show i = (setsN m (k + 1)).length by omega, minS_gcd hm] at he
    refine Ep.up ?_
    simp only [spec_InvariantFactors.l1]
    rw [wrap_succ (by omega)]
    rw [invL_take m M (by omega)] at hn
    unfold invF at hn
    refine Ep.neg (by omega) ?_
    by_cases c0 : gK m M k = 0
    · have c1 := gK_next hm M c0
      rw [if_pos c1, c1] at hn
      exact Ep.pos (by omega) (Ep.pos (by omega) hn)
    · by_cases c1 : gK m M (k + 1) = 0
      · rw [if_pos c1, c1] at hn
        exact Ep.neg (by omega) (Ep.pos (by omega) (Ep.pos (by omega) hn))
      · rw [if_neg c1] at hn
        have hb := gK_le hm hM (k + 1)
        have hd : gK m M (k + 1) / gK m M k ≤ gK m M (k + 1) := Nat.div_le_self _ _
        have e : wrap64 (Int.tdiv (g : Int) ((gK m M k : Nat) : Int)) = ((gK m M (k + 1) / gK m M k : Nat) : Int) := by
          rw [he]
          have e' : Int.tdiv ((gK m M (k + 1) : Nat) : Int) ((gK m M k : Nat) : Int) = ((gK m M (k + 1) / gK m M k : Nat) : Int) := rfl
          rw [e']
          generalize gK m M (k + 1) / gK m M k = z at hd ⊢
          exact wrap_id (by omega) (by omega)
        refine Ep.neg (by omega) (Ep.neg (by omega) (Ep.pos (by omega) ?_))
        rw [e, he]
        exact hn
  | succ d ih =>
    intro i g hi hg he
    have hlt : i < (setsN m (k + 1)).length := by omega
    have er : rd_L3 (setsN m (k + 1)) (i : Int) = (setsN m (k + 1))[i] := by
      unfold rd_L3
      rw [Int.toNat_natCast, List.getD_eq_getElem?_getD, List.getElem?_eq_getElem hlt]
      rfl
    refine Ep.up ?_
    simp only [spec_InvariantFactors.l1]
    refine Ep.pos (by omega) (Ep.pos (by omega) (Ep.pos (by omega) ?_))
    rw [er]
    refine specInv_l2 hm hM hk hg (List.getElem_mem hlt) (fun g' hg' he' => ?_) hlt (setsN m (k + 1)).length 0 g (by omega) hg rfl
    refine ih (i + 1) g' (by omega) hg' ?_
    rw [minS_succ M (List.getElem?_eq_getElem hlt), gcdF_two, ← he]
    exact he'
theorem specInv_l0 {m : Nat} (hm : m ≤ 5) {M : List (List Int)} (hM : SqOk m M) : ∀ (d k : Nat), k + d = m → Ep (fun f => spec_InvariantFactors.l0 f M ((invL m M).take k) ((gK m M k : Nat) : Int) ((k + 1 : Nat) : Int)) (· = invL m M) := by
  have hM1 := hM.1
  intro d
  induction d with
  | zero =>
    intro k hk
    refine Ep.up ?_
    simp only [spec_InvariantFactors.l0]
    refine Ep.neg (by omega) (Ep.now ?_)
    rw [List.take_of_length_le (by simp [invL]; omega)]
  | succ d ih =>
    intro k hk
    have h := ih (k + 1) (by omega)
    refine Ep.up ?_
    simp only [spec_InvariantFactors.l0]
    refine Ep.pos (by omega) (Ep.bind0 (a := setsN m (k + 1)) ?_ ?_)
    · unfold spec_l03Sets.f
      rw [if_pos (by omega), hM1, Int.toNat_natCast, Int.toNat_natCast]
    · exact specInv_l1 hm hM (by omega) h (setsN m (k + 1)).length 0 0 (by omega) (by omega) rfl
theorem gK_0 {m : Nat} (hm : m ≤ 5) (M : List (List Int)) : gK m M 0 = 1 := by
  have h := minS_gcd (k := 0) hm M
  rw [← h]
  simp [setsN, minS, gcdF, detL]
theorem specInvariant {m : Nat} (hm : m ≤ 5) {M : List (List Int)} (hM : SqOk m M) : Ep (fun k => spec_InvariantFactors.f k M) (· = invL m M) := by
  simp only [spec_InvariantFactors.f]
  refine Ep.bind (specMatrixOk hm hM) ?_
  rintro _ rfl
  refine Ep.pos rfl ?_
  have h := specInv_l0 hm hM m 0 (by omega)
  rw [gK_0 hm] at h
  exact h
theorem specGF_l0 (L : List Int) (hL : L.length ≤ 100) : ∀ (d i : Nat), i + d = L.length → Ep (fun k => spec_GroupFactors.l0 k (factL (L.take i)) L (L.length : Int) (i : Int)) (· = factL L) := by
  intro d
  induction d with
  | zero =>
    intro i hi
    refine Ep.up ?_
    simp only [spec_GroupFactors.l0]
    refine Ep.neg (by omega) (Ep.now ?_)
    rw [List.take_of_length_le (by omega)]
  | succ d ih =>
    intro i hi
    have h := ih (i + 1) (by omega)
    have hlt : i < L.length := by omega
    have e : rd L (i : Int) = L[i] := by
      unfold rd
      rw [Int.toNat_natCast, List.getD_eq_getElem?_getD, List.getElem?_eq_getElem hlt]
      rfl
    have hl : (factL (L.take i)).length ≤ 100 := Nat.le_trans (List.length_filter_le _ _) (by rw [List.length_take]; omega)
    unfold factL at h
    rw [List.take_succ_eq_append_getElem hlt, List.filter_append] at h
    refine Ep.up ?_
    simp only [spec_GroupFactors.l0]
    refine Ep.pos (by omega) (Ep.pos (by omega) (Ep.pos (by omega) ?_))
    rw [e, wrap_succ (by omega)]
    by_cases c : L[i] > 1
    · rw [List.filter_cons_of_pos (by simpa using c)] at h
      exact Ep.pos c (Ep.pos (by omega) h)
    · rw [List.filter_cons_of_neg (by simpa using c), List.filter_nil, List.append_nil] at h
      exact Ep.neg c h
def gfO (n : Int) (es : List E) : List Int := if gOk n es = true then factL (invL (n.toNat - 1) (redM n.toNat es 0)) else []
theorem factL_len (L : List Int) : (factL L).length ≤ L.length := List.length_filter_le _ _
theorem gfO_len (n : Int) (es : List E) : (gfO n es).length ≤ 6 := by
  unfold gfO
  by_cases c : gOk n es = true
  · have hG := (gOk_iff.1 c).1
    unfold EsOk at hG
    rw [if_pos c]
    refine Nat.le_trans (factL_len _) ?_
    simp only [invL, List.length_map, List.length_range]
    omega
  · rw [if_neg c]
    exact Nat.zero_le _
theorem specGF (n : Int) (es : List E) : Ep (fun k => spec_GroupFactors.f k n es) (· = gfO n es) := by
  simp only [spec_GroupFactors.f]
  refine Ep.bind (specGraph _ _) ?_
  rintro _ rfl
  unfold gfO
  by_cases c : gOk n es = true
  · have hg := gOk_iff.1 c
    have hG := hg.1
    unfold EsOk at hG
    rw [if_pos c]
    refine Ep.pos c ?_
    obtain ⟨m, rfl⟩ := Int.eq_ofNat_of_zero_le (show 0 ≤ n by omega)
    rw [Int.toNat_natCast]
    refine Ep.bind (specRL hg (q := 0) (by omega)) ?_
    rintro _ rfl
    refine Ep.bind (specInvariant (by omega) (redM_sq (q := 0) (by omega) hG.2.2.1)) ?_
    rintro _ rfl
    exact specGF_l0 (invL (m - 1) (redM m es 0)) (by simp [invL]; omega) (invL (m - 1) (redM m es 0)).length 0 (by omega)
  · rw [if_neg c]
    exact Ep.neg c (Ep.now rfl)
theorem implGF (n : Int) (es : List E) : Ep (fun k => impl_GroupFactors.f k n es) (· = gfO n es) := by
  unfold gfO
  by_cases c : gOk n es = true
  · have hg := gOk_iff.1 c
    have hG := hg.1
    unfold EsOk at hG
    rw [if_pos c]
    obtain ⟨m, rfl⟩ := Int.eq_ofNat_of_zero_le (show 0 ≤ n by omega)
    rw [Int.toNat_natCast]
    exact implGroupFactors hg
  · rw [if_neg c]
    simp only [impl_GroupFactors.f]
    refine Ep.bind0 (implGraph _ _) ?_
    exact Ep.neg c (Ep.now rfl)
def EWf (e : E) : Prop := Wf .i64 e.f0 ∧ Wf .i64 e.f1
theorem rdLE_get {es : List E} {i : Nat} (h : i < es.length) : rd_T82 es (i : Int) = es[i] := by simp [rd_T82, List.getD, h]
theorem szGraph_ok (n : Int) (es : List E) (a : Int) (ha : 0 ≤ a ∧ a ≤ 1048576) (hl : es.length ≤ 9223372036854775807) : ∃ t, laws_szGraph.f n es a = some t ∧ t ≤ 1048576 ∧ (¬ t < 0 → es.length ≤ 1048576) := by
  unfold laws_szGraph.f laws_szEdgeS.f
  rw [wrap_id (by omega) (by omega)]
  by_cases h : a - (es.length : Int) < 0
  · refine ⟨-1, ?_, by omega, by omega⟩
    rw [if_pos h]
    simp
  · refine ⟨a - es.length, ?_, by omega, by omega⟩
    rw [if_neg h]
    simp only [Option.bind_some]
    rw [if_neg h]
theorem toEdgeS_l0 (x0 : List E) (h : x0.length ≤ 1048576) : ∀ (d i : Nat) (x3 : List E), i + d = x0.length → x3.length = x0.length → (∀ j, j < i → x3[j]? = x0[j]?) → Ep (fun k => laws_toEdgeS.l0 k x0 x3 (i : Int)) (· = x0) := by
  intro d
  induction d with
  | zero =>
    intro i x3 hi hl hx
    refine Ep.up ?_
    simp only [laws_toEdgeS.l0]
    refine Ep.neg (by omega) (Ep.now ?_)
    apply List.ext_getElem?
    intro j
    by_cases hj : j < i
    · exact hx j hj
    · rw [List.getElem?_eq_none (by omega), List.getElem?_eq_none (by omega)]
  | succ d ih =>
    intro i x3 hi hl hx
    have hlt : i < x0.length := by omega
    refine Ep.up ?_
    simp only [laws_toEdgeS.l0]
    refine Ep.pos (by omega) (Ep.pos (by omega) ?_)
    rw [rdLE_get hlt, wrap_succ (by omega)]
    refine Ep.bind0 rfl (Ep.pos (by omega) ?_)
    refine ih (i + 1) _ (by omega) (by simpa using hl) ?_
    intro j hj
    rw [Int.toNat_natCast]
    by_cases e : i = j
    · subst e
      rw [List.getElem?_set_self (by omega), List.getElem?_eq_getElem (by omega)]
    · rw [List.getElem?_set_ne e]
      exact hx j (by omega)
theorem toGraph_ok (n : Int) (es : List E) (h : es.length ≤ 1048576) : Ep (fun k => laws_toGraph.f k n es) (· = (n, es)) := by
  simp only [laws_toGraph.f, laws_toEdgeS.f]
  refine Ep.bind (P := (· = es)) (Ep.pos (by omega) (Ep.pos (by simp; omega) ?_)) ?_
  · exact toEdgeS_l0 es h es.length 0 _ (by omega) (by simp) (fun j hj => by omega)
  · rintro _ rfl
    exact Ep.now rfl
theorem eqEdge_ok (a b : Int) : laws_eqEdge.f a b a b = some true := by simp [laws_eqEdge.f]
theorem eqEdgeS_l0 (x : List E) (h : x.length ≤ 1048576) : ∀ (d i : Nat), i + d = x.length → Ep (fun k => laws_eqEdgeS.l0 k x x (i : Int)) (· = true) := by
  intro d
  induction d with
  | zero =>
    intro i hi
    refine Ep.up ?_
    simp only [laws_eqEdgeS.l0]
    exact Ep.neg (by omega) (Ep.now rfl)
  | succ d ih =>
    intro i hi
    refine Ep.up ?_
    simp only [laws_eqEdgeS.l0]
    refine Ep.pos (by omega) (Ep.pos (by omega) (Ep.pos (by omega) ?_))
    rw [wrap_succ (by omega)]
    exact Ep.bind0 (eqEdge_ok _ _) (Ep.pos rfl (ih (i + 1) (by omega)))
theorem eqGraph_ok (n : Int) (es : List E) (h : es.length ≤ 1048576) : Ep (fun k => laws_eqGraph.f k n es n es) (· = true) := by
  simp only [laws_eqGraph.f]
  refine Ep.pos trivial (Ep.bind (P := (· = true)) ?_ ?_)
  · simp only [laws_eqEdgeS.f]
    exact Ep.pos trivial (eqEdgeS_l0 es h es.length 0 (by omega))
  · rintro _ rfl
    exact Ep.pos rfl (Ep.now rfl)
theorem markEdgeS_l0 (n : Nat) (hn : n ≤ 1048576) {B : Int} (hB : B ≤ 1099511627776) : ∀ (d i : Nat) (x : List E) (a : Int), i + d = n → x.length = n → 0 ≤ a → a + 2 * d ≤ B → Ep (fun k => laws_markEdgeS.l0 k x a (i : Int)) (fun r => 0 ≤ r.1 ∧ r.1 ≤ B) := by
  intro d
  induction d with
  | zero =>
    intro i x a hi hx h0 ha
    refine Ep.up ?_
    simp only [laws_markEdgeS.l0]
    exact Ep.neg (by omega) (Ep.now ⟨h0, by omega⟩)
  | succ d ih =>
    intro i x a hi hx h0 ha
    refine Ep.up ?_
    simp only [laws_markEdgeS.l0]
    refine Ep.pos (by omega) (Ep.pos (by omega) (Ep.bind0 rfl ?_))
    rw [wrap_succ (by omega), wrap_id (x := a + 1) (by omega) (by omega), wrap_id (x := a + 1 + 1) (by omega) (by omega)]
    exact ih (i + 1) _ _ (by omega) (by simpa using hx) (by omega) (by omega)
theorem markGraph_ok (n : Int) (es : List E) (a : Int) (h : es.length ≤ 1048576) (ha : 0 ≤ a ∧ a ≤ 1000) : Ep (fun k => laws_markGraph.f k n es a) (fun r => 0 ≤ r.1 ∧ r.1 ≤ 3000000) := by
  have := markEdgeS_l0 es.length h (B := 3000000) (by omega) es.length 0 es a (by omega) rfl ha.1 (by omega)
  simp only [laws_markGraph.f, laws_markEdgeS.f]
  refine Ep.bind this ?_
  intro r hr
  exact Ep.now hr
theorem law_FnExactGroupFactors (n : Int) (es : List E) (hn : Wf .i64 n) (hes : SL EWf es) : Ep (fun k => laws_FnExactGroupFactors.f k n es) (· = true) := by
  have hr0 : (gfO n es).length ≤ 1048576 := by have := gfO_len n es; omega
  simp only [laws_FnExactGroupFactors.f]
  obtain ⟨t, ht, _, h2⟩ := szGraph_ok n es 1048576 (by omega) hes.1
  refine Ep.bind0 ht (Ep.ite (fun _ => Ep.now rfl) (fun hc2 => ?_))
  have hel := h2 hc2
  repeat (first
    | exact Ep.now rfl
    | (refine Ep.bind (toGraph_ok _ _ hel) ?_; rintro _ rfl)
    | (refine Ep.bind (eqGraph_ok _ _ hel) ?_; rintro _ rfl)
    | (refine Ep.bind (eqIntS_ok _ hr0) ?_; rintro _ rfl)
    | (refine Ep.bind (specGF _ _) ?_; rintro _ rfl)
    | (refine Ep.bind (implGF _ _) ?_; rintro _ rfl)
    | (refine Ep.bind (heldIntS_ok _ _ hr0 (by first | omega | (simp; omega))) ?_; rintro _ rfl)
    | (refine Ep.bind (markIntS_ok _ _ hr0 (by first | omega | (simp; omega))) ?_; rintro _ rfl)
    | (refine Ep.bind (markGraph_ok _ _ 1 hel (by omega)) ?_; intro r hr0_)
    | refine Ep.pos rfl ?_
    | refine Ep.pos trivial ?_
    | refine Ep.neg (by simp; omega) ?_
    | refine Ep.neg (by omega) ?_
    | refine Ep.neg (by simp) ?_
    | (refine Ep.up ?_; simp only [laws_FnExactGroupFactors.j0]))
end Go.Proofs.Ytkcbinohpdhbgaa.Cf
end

section
namespace Go.Proofs.Ytkcbinohpdhbgaa.Cf
set_option linter.unusedVariables false
set_option linter.unusedSimpArgs false
open Go.RowKit Go.ChangeShapes Go.WideShapes Go.Deep Go.Joins Go.Proofs.YtkcbinohpdhbgaaW.PrintWords
section
variable {H : Type} {enc : TypeId × Value → H} {P : Program} {w : World} {base : Nat} {spare : Nat → Bool} {held : Bool}
/-- A slice, whatever its elements are, if each of them can be told. -/
theorem trod_C {α : Type} {d : Kd α} {Q : α → Prop} (hd : Inhabited α) {t e : TypeId} {fuel : Nat} {cs : List Value} {x : DataW H × List MemPlace} (ht : P.underlying t = some (.slice e)) (hsz : P.cellsOf e = d.sz)
    (hel : ∀ (n : Nat) (cs : List Value) (y : DataW H × List MemPlace), DataW.trod enc P w base spare held n e cs = some y → ∃ a : α, d.K w a cs ∧ Q a)
    (h : DataW.trod enc P w base spare held fuel t cs = some x) : ∃ A len cap xs, cs = [.slice A len cap] ∧ xs.length = len ∧ len ≤ cap ∧ Kd.C d w A len xs ∧ SL Q xs := by
  rcases open_slice ht h with ⟨rfl, _⟩ | ⟨a, len, cap, m, n, D, Pl, rfl, _, hl, hm, hmm, _, hx⟩
  · exact ⟨none, 0, 0, [], rfl, rfl, Nat.le_refl _, ⟨rfl, by omega, fun hn => by omega⟩, by simp, fun x hx => by cases hx⟩
  · have hlm : len ≤ m := by rw [hmm]; split <;> omega
    obtain ⟨X, hX⟩ := choose_lt (α := α) (n := len) (p := fun i z => Q z ∧ ∃ c, c.length = d.sz ∧ d.K w z c ∧ ∀ j u, c[j]? = some u → w.cell? (a.add (i * d.sz + j)) = some u) (fun i hi => by
      obtain ⟨cs', h1, h2⟩ := hx i (by omega)
      obtain ⟨z, hz, hq⟩ := hel n cs' _ h2
      obtain ⟨_, hlen, hc⟩ := World.cells?_some h1
      refine ⟨z, hq, cs', by rw [hlen, hsz], hz, fun j u hj => ?_⟩
      have hjl : j < cs'.length := by
        apply Classical.byContradiction
        intro hc
        rw [List.getElem?_eq_none (by omega)] at hj
        cases hj
      have := hc j (by omega)
      rw [Deep.add_add, hsz] at this
      rw [this, hj])
    refine ⟨some a, len, cap, (List.range len).map X, rfl, by simp, hl, ⟨by simp, ?_, fun _ => ⟨a, rfl, fun j p hj => ?_⟩⟩, by simp; unfold maxLen at hm; omega, fun x hx => ?_⟩
    · unfold maxLen at hm
      omega
    · have hjl : j < len := by
        apply Classical.byContradiction
        intro hc
        rw [List.getElem?_eq_none (by simp; omega)] at hj
        cases hj
      have : p = X j := by
        rw [List.getElem?_eq_getElem (by simpa using hjl)] at hj
        simpa using hj.symm
      subst this
      exact (hX j hjl).2
    · obtain ⟨i, hi, rfl⟩ := List.mem_map.1 hx
      exact (hX i (List.mem_range.1 hi)).1
/-- A struct of two numbers. -/
theorem el_pair {k0 k1 : IntKind} {e : TypeId} {f0 f1 : Field} (he : P.underlying e = some (.struct #[f0, f1])) (ce : P.cellsOf e = 2) (o0 : f0.offset = 0) (o1 : f1.offset = 1) (c0 : P.cellsOf f0.type = 1) (c1 : P.cellsOf f1.type = 1)
    (u0 : P.underlying f0.type = some (.int k0)) (u1 : P.underlying f1.type = some (.int k1)) :
    ∀ (n : Nat) (cs : List Value) (y : DataW H × List MemPlace), DataW.trod enc P w base spare held n e cs = some y → ∃ a b : Int, cs = [.int k0 a, .int k1 b] ∧ Wf k0 a ∧ Wf k1 b := by
  intro n cs y h
  obtain ⟨y0, y1, m, _, hl, h0, h1⟩ := trod_struct2 he h
  rw [ce] at hl
  rw [o0, c0] at h0
  rw [o1, c1] at h1
  match cs, hl with
  | [a, b], _ =>
    obtain ⟨x, hx, _, wx⟩ := DataW.trod_int u0 h0
    obtain ⟨z, hz, _, wz⟩ := DataW.trod_int u1 h1
    simp at hx hz
    subst hx; subst hz
    exact ⟨x, z, rfl, wx, wz⟩
/-- A struct of a number and a slice that comes in. -/
theorem arg_graph {α : Type} {d : Kd α} {Q : α → Prop} (hd : Inhabited α) {r : Reach} {b0 : Nat} {t e : TypeId} {f0 f1 : Field} {v : Value} {x : DataW H} {p : List MemPlace} (hs : P.underlying t = some (.struct #[f0, f1])) (hone : oneCellFields P #[f0, f1] = true) (hC : P.cellsOf t = 2)
    (u0 : P.underlying f0.type = some (.int .i64)) (u1 : P.underlying f1.type = some (.slice e)) (hsz : P.cellsOf e = d.sz)
    (hel : ∀ (n : Nat) (cs : List Value) (y : DataW H × List MemPlace), DataW.trod enc P w base spare held n e cs = some y → ∃ a : α, d.K w a cs ∧ Q a)
    (hv : Value.okWide P w r b0 t v) (h : DataW.Trod enc P w base spare held t v x p) : ∃ n a len cap, ∃ xs : List α, v = .agg #[.int .i64 n, .slice a len cap] ∧ Wf .i64 n ∧ xs.length = len ∧ len ≤ cap ∧ Kd.C d w a len xs ∧ SL Q xs := by
  obtain ⟨v0, v1, y0, y1, m, rfl, _, _, h0, h1⟩ := open_agg2 hs hone hC hv h
  obtain ⟨n, hn, _, hw⟩ := DataW.trod_int u0 h0
  obtain ⟨A, len, cap, xs, hcs, hl, hc, hx, hq⟩ := trod_C hd u1 hsz hel h1
  simp at hn hcs
  subst hn; subst hcs
  exact ⟨n, A, len, cap, xs, rfl, hw, hl, hc, hx, hq⟩
end
end Go.Proofs.Ytkcbinohpdhbgaa.Cf
end

section
namespace Go.Proofs.Ytkcbinohpdhbgaa.Cf
theorem and2 {a b : Bool} (h : a = true) (k : b = true) : (a && b) = true := by rw [h, k]; rfl
theorem iniS : Try.prog.initOrder.toList = ['h', 'a', 'r', 'n', 'e', 's', 's', ' ', '5', '8', 'd', '1', '6', '8', '6', 'c', 'f', '1', '5', 'a', '4', '6', 'd', 'e', '2', 'd', 'b', '2', '2', '4', '6', '5', 'e', 'f', '8', '2', '4', '6', '0', 'd', 'f', 'a', '6', 'b', '7', '2', 'f', 'f', '4', '0', '5', '9', 'd', 'a', '5', '4', '8', '6', '4', 'd', 'e', '8', 'a', '7', '2', '6', 'b', 'b', 'e', 'c', '5', 'd', ' ', 'c', 'u', 't', ' ', 'a', 't', ' ', 'l', 'o', 'o', 'p', '.', 'e', 'x', 'a', 'm', 'p', 'l', 'e', '/', 'g', '0', '0', '8', '4', '1', '/', 'l', 'a', 'w', 's', '.', 'F', 'n', 'E', 'x', 'a', 'c', 't', 'G', 'r', 'o', 'u', 'p', 'F', 'a', 'c', 't', 'o', 'r', 's', ' ', 'l', 'o', 'o', 'p', '.', 'e', 'x', 'a', 'm', 'p', 'l', 'e', '/', 'g', '0', '0', '8', '4', '1', '/', 'l', 'a', 'w', 's', '.', 'F', 'n', 'E', 'x', 'a', 'c', 't', 'I', 's', 'C', 'y', 'c', 'l', 'i', 'c', ' ', 'l', 'o', 'o', 'p', '.', 'e', 'x', 'a', 'm', 'p', 'l', 'e', '/', 'g', '0', '0', '8', '4', '1', '/', 'l', 'a', 'w', 's', '.', 'F', 'n', 'O', 'r', 'd', 'e', 'r', 's', ' ', 'l', 'o', 'o', 'p', '.', 'e', 'x', 'a', 'm', 'p', 'l', 'e', '/', 'g', '0', '0', '8', '4', '1', '/', 'l', 'a', 'w', 's', '.', 'F', 'n', 'E', 'x', 'a', 'c', 't', 'R', 'o', 'w', 'O', 'f', 'O', 'n', 'e'] := by
  have h : Try.prog.initOrder = String.ofList ['h', 'a', 'r', 'n', 'e', 's', 's', ' ', '5', '8', 'd', '1', '6', '8', '6', 'c', 'f', '1', '5', 'a', '4', '6', 'd', 'e', '2', 'd', 'b', '2', '2', '4', '6', '5', 'e', 'f', '8', '2', '4', '6', '0', 'd', 'f', 'a', '6', 'b', '7', '2', 'f', 'f', '4', '0', '5', '9', 'd', 'a', '5', '4', '8', '6', '4', 'd', 'e', '8', 'a', '7', '2', '6', 'b', 'b', 'e', 'c', '5', 'd', ' ', 'c', 'u', 't', ' ', 'a', 't', ' ', 'l', 'o', 'o', 'p', '.', 'e', 'x', 'a', 'm', 'p', 'l', 'e', '/', 'g', '0', '0', '8', '4', '1', '/', 'l', 'a', 'w', 's', '.', 'F', 'n', 'E', 'x', 'a', 'c', 't', 'G', 'r', 'o', 'u', 'p', 'F', 'a', 'c', 't', 'o', 'r', 's', ' ', 'l', 'o', 'o', 'p', '.', 'e', 'x', 'a', 'm', 'p', 'l', 'e', '/', 'g', '0', '0', '8', '4', '1', '/', 'l', 'a', 'w', 's', '.', 'F', 'n', 'E', 'x', 'a', 'c', 't', 'I', 's', 'C', 'y', 'c', 'l', 'i', 'c', ' ', 'l', 'o', 'o', 'p', '.', 'e', 'x', 'a', 'm', 'p', 'l', 'e', '/', 'g', '0', '0', '8', '4', '1', '/', 'l', 'a', 'w', 's', '.', 'F', 'n', 'O', 'r', 'd', 'e', 'r', 's', ' ', 'l', 'o', 'o', 'p', '.', 'e', 'x', 'a', 'm', 'p', 'l', 'e', '/', 'g', '0', '0', '8', '4', '1', '/', 'l', 'a', 'w', 's', '.', 'F', 'n', 'E', 'x', 'a', 'c', 't', 'R', 'o', 'w', 'O', 'f', 'O', 'n', 'e'] := by kernel_rfl
  exact (congrArg String.toList h).trans String.toList_ofList
theorem iniW : behindMainWord (wordsSigns Try.prog.initOrder.toList) = [['c', 'u', 't'], ['a', 't'], ['l', 'o', 'o', 'p', '.', 'e', 'x', 'a', 'm', 'p', 'l', 'e', '/', 'g', '0', '0', '8', '4', '1', '/', 'l', 'a', 'w', 's', '.', 'F', 'n', 'E', 'x', 'a', 'c', 't', 'G', 'r', 'o', 'u', 'p', 'F', 'a', 'c', 't', 'o', 'r', 's'], ['l', 'o', 'o', 'p', '.', 'e', 'x', 'a', 'm', 'p', 'l', 'e', '/', 'g', '0', '0', '8', '4', '1', '/', 'l', 'a', 'w', 's', '.', 'F', 'n', 'E', 'x', 'a', 'c', 't', 'I', 's', 'C', 'y', 'c', 'l', 'i', 'c'], ['l', 'o', 'o', 'p', '.', 'e', 'x', 'a', 'm', 'p', 'l', 'e', '/', 'g', '0', '0', '8', '4', '1', '/', 'l', 'a', 'w', 's', '.', 'F', 'n', 'O', 'r', 'd', 'e', 'r', 's'], ['l', 'o', 'o', 'p', '.', 'e', 'x', 'a', 'm', 'p', 'l', 'e', '/', 'g', '0', '0', '8', '4', '1', '/', 'l', 'a', 'w', 's', '.', 'F', 'n', 'E', 'x', 'a', 'c', 't', 'R', 'o', 'w', 'O', 'f', 'O', 'n', 'e']] := (congrArg (fun x => behindMainWord (wordsSigns x)) iniS).trans (by kernel_rfl)
theorem mk_cut {P : Program} {r : List (List Char)} (h : behindMainWord (wordsSigns P.initOrder.toList) = ['c', 'u', 't'] :: r) : P.make = some .cut := by
  unfold Program.make
  rw [h]
  rfl
theorem lf_cut {P : Program} {r : List (List Char)} (h : behindMainWord (wordsSigns P.initOrder.toList) = ['c', 'u', 't'] :: r) (k : (stripLifts liftWords (['c', 'u', 't'] :: r)).1 = []) : P.liftsFinal = false := by
  unfold Program.liftsFinal Program.headLifts
  rw [h]
  simp [k]
theorem en_cut {P : Program} {r : List (List Char)} (h : behindMainWord (wordsSigns P.initOrder.toList) = ['c', 'u', 't'] :: r) (k1 : (stripLifts liftWords (['c', 'u', 't'] :: r)).1 = []) (k2 : ((stripLifts liftWords (['c', 'u', 't'] :: r)).2.head? == some "cut".toList) = true) (h1 : P.laysLater = false) (h2 : P.bearsReflect = false) (h3 : P.doorFits [] = true) : P.mayEnter = true := by
  unfold Program.mayEnter
  rw [h]
  simp only [k1, k2, h1, h2, h3]
  simp
theorem make : Try.prog.make = some .cut := mk_cut iniW
theorem lifted : Try.prog.liftsFinal = false := lf_cut iniW (by kernel_rfl)
theorem enter : Try.prog.mayEnter = true := en_cut iniW (by kernel_rfl) (by kernel_rfl) (by kernel_rfl) (by kernel_rfl) (by kernel_rfl)
end Go.Proofs.Ytkcbinohpdhbgaa.Cf
end

