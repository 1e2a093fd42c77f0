/- A part of the proof of FnOrders. -/
import Derived.Test.YtkcbinohpdhbgaaBFnOrders4
import Derived.Test.YtkcbinohpdhbgaaBFnOrders3
import Derived.Test.YtkcbinohpdhbgaaBFnOrders1
import Derived.Test.YtkcbinohpdhbgaaBFnOrders0
import Derived.Deep.Slices
import Derived.Lib.SmallJoins
import Derived.ChangeSame
import Derived.Test.YtkcbinohpdhbgaaRows
import Derived.JoinedOf
import Derived.KernelRfl
section
namespace Go.Proofs.Ytkcbinohpdhbgaa.Cf
set_option linter.unusedVariables false
set_option linter.unusedSimpArgs false
open Go.RowKit Go.Proofs.YtkcbinohpdhbgaaW.PrintWords Go.Proofs.Ytkcbinohpdhbgaa.P
theorem implMat_l0 {m : Nat} (hm : m ≤ 5) {M : List (List Int)} (hM : SqOk m M) : ∀ (d i : Nat), i + d = m → Ep (fun k => impl_MatrixOk.l0 k M M (m : Int) (i : Int)) (· = true) := by
 intro d
 induction d with
 | zero =>
  intro i hi
  refine Ep.up ?_
  simp only [impl_MatrixOk.l0]
  exact Ep.neg (by omega) (Ep.now rfl)
 | succ d ih =>
  intro i hi
  have hml := hM.1
  have hlt : i < M.length := by omega
  have e : rd_L3 M (i : Int) = M[i] := by
   unfold rd_L3
   rw [Int.toNat_natCast, List.getD_eq_getElem?_getD, List.getElem?_eq_getElem hlt]
   rfl
  have h1 := hM.2.1 _ (List.getElem_mem hlt)
  have h2 := hM.2.2 _ (List.getElem_mem hlt)
  refine Ep.up ?_
  simp only [impl_MatrixOk.l0]
  refine Ep.pos (by omega) (Ep.pos (by omega) (Ep.pos (by omega) (Ep.pos (by rw [e]; omega) ?_)))
  rw [e]
  refine Ep.bind (allWithin_ok _ _ _ (by omega)) ?_
  rintro _ rfl
  refine Ep.pos (decide_eq_true fun x hx => by have := h2 x hx; omega) ?_
  rw [wrap_succ (by omega)]
  exact ih (i + 1) (by omega)
theorem implMatrixOk {m : Nat} (hm : m ≤ 5) {M : List (List Int)} (hM : SqOk m M) : Ep (fun k => impl_MatrixOk.f k M) (· = true) := by
 simp only [impl_MatrixOk.f]
 have hml := hM.1
 refine Ep.neg (by omega) ?_
 rw [hml]
 exact implMat_l0 hm hM m 0 (by omega)
def upTo (m : Nat) : List Int := (List.range m).map fun j : Nat => (j : Int)
theorem implDeterminant {m : Nat} (hm : m ≤ 5) {M : List (List Int)} (hM : SqOk m M) : Ep (fun k => impl_Determinant.f k M) (· = detL M (upTo m) (upTo m)) := by
 simp only [impl_Determinant.f]
 refine Ep.bind (implMatrixOk hm hM) ?_
 rintro _ rfl
 refine Ep.pos rfl ?_
 obtain ⟨h1, h2, h3, h4⟩ := bm_full (i := m) (by omega)
 rw [hM.1, h2]
 refine Ep.bind (implBits h4) ?_
 rintro _ rfl
 rw [h1]
 have hpos : 0 < 2 ^ m := Nat.pow_pos (by omega)
 refine Ep.bind (implDet hm hM _ (by simp; exact hm) (fun r hr => ?_) (2 ^ m - 1) (by omega)) ?_
 ·obtain ⟨j, hj, rfl⟩ := List.mem_map.1 hr
  have := List.mem_range.1 hj
  omega
 ·rintro _ rfl
  rw [h1]
  exact Ep.now rfl
theorem redM_sq {n q : Nat} (hq : q < n) {es : List E} (hel : es.length ≤ 12) : SqOk (n - 1) (redM n es q) := by
 refine ⟨redM_len hq es, fun r hr => ?_, fun r hr x hx => ?_⟩
 ·unfold redM at hr
  obtain ⟨v, _, rfl⟩ := List.mem_map.1 hr
  rw [List.length_map, vsL_len hq]
 ·unfold redM at hr
  obtain ⟨v, _, rfl⟩ := List.mem_map.1 hr
  obtain ⟨w, _, rfl⟩ := List.mem_map.1 hx
  exact lapM_bd hel _ _
def vAt (vs : List Int) (i : Int) : Int := vs.getD i.toNat 0
theorem redM_ent {n q : Nat} (hq : q < n) (es : List E) {r c : Int} (hr : 0 ≤ r ∧ r < ((n - 1 : Nat) : Int)) (hc : 0 ≤ c ∧ c < ((n - 1 : Nat) : Int)) : ent (redM n es q) r c = lapM es (vAt (vsL n q) r) (vAt (vsL n q) c) := by
 have hl := vsL_len hq
 unfold ent redM rd vAt
 rw [getD_map (fun r => (vsL n q).map fun c => lapM es r c) (vsL n q) r.toNat 0 [] (by omega), getD_map (fun c => lapM es _ c) (vsL n q) c.toNat 0 0 (by omega)]
theorem detL_detC {M : List (List Int)} {A : Int → Int → Int} {v : Int → Int} : ∀ (rs cs : List Int), (∀ r ∈ rs, ∀ c ∈ cs, ent M r c = A (v r) (v c)) → detL M rs cs = detC (rs.map v) (cs.map fun c r => A r (v c))
 | [], cs, _ => rfl
 | r :: rs, cs, h => by
  show (alt cs.length fun i => ent M r (cs.getD i 0) * detL M rs (cs.eraseIdx i)) = alt (cs.map fun c r => A r (v c)).length fun i => ((cs.map fun c r => A r (v c)).getD i z0) (v r) * detC (rs.map v) ((cs.map fun c r => A r (v c)).eraseIdx i)
  rw [List.length_map]
  refine alt_congr fun i hi => ?_
  rw [getD_map (fun c r => A r (v c)) cs i 0 z0 hi, map_eraseIdx, detL_detC rs (cs.eraseIdx i) fun r' hr' c hc => h r' (List.mem_cons_of_mem _ hr') c (List.mem_of_mem_eraseIdx hc), h r List.mem_cons_self _ (getD_mem 0 hi)]
theorem upTo_mem {m : Nat} {x : Int} : x ∈ upTo m ↔ 0 ≤ x ∧ x < m := by
 unfold upTo
 rw [List.mem_map]
 constructor
 ·rintro ⟨j, hj, rfl⟩
  have := List.mem_range.1 hj
  omega
 ·exact fun h => ⟨x.toNat, List.mem_range.2 (by omega), by omega⟩
theorem upTo_vAt (vs : List Int) : (upTo vs.length).map (vAt vs) = vs := by
 unfold upTo
 rw [List.map_map]
 refine List.ext_getElem (by simp) fun i h1 h2 => ?_
 simp [vAt, List.getD, h2]
theorem redM_det {n q : Nat} (hq : q < n) (es : List E) : detL (redM n es q) (upTo (n - 1)) (upTo (n - 1)) = dlap es (vsL n q) := by
 rw [detL_detC (A := lapM es) (v := vAt (vsL n q)) _ _ fun r hr c hc => redM_ent hq es (upTo_mem.1 hr) (upTo_mem.1 hc)]
 unfold dlap
 have e := upTo_vAt (vsL n q)
 rw [vsL_len hq] at e
 have e2 : (upTo (n - 1)).map (fun (c r : Int) => lapM es r (vAt (vsL n q) c)) = ((upTo (n - 1)).map (vAt (vsL n q))).map fun c r => lapM es r c := by rw [List.map_map]; rfl
 rw [e2, e]
theorem implCountTrees {n : Nat} {es : List E} (hg : GOk (n : Int) es) : Ep (fun k => impl_CountTrees.f k (n : Int) es) (· = dlap es (vsL n 0)) := by
 have hG := hg.1
 unfold EsOk at hG
 simp only [impl_CountTrees.f]
 refine Ep.bind0 (implGraph _ _) ?_
 rw [gOk_iff.2 hg]
 refine Ep.pos rfl (Ep.bind (implRL hg (q := 0) (by omega)) ?_)
 rintro _ rfl
 refine Ep.bind (implDeterminant (by omega) (redM_sq (q := 0) (by omega) hG.2.2.1)) ?_
 rintro _ rfl
 rw [redM_det (by omega)]
 exact Ep.now rfl
theorem implGroupOrder {n : Nat} {es : List E} (hg : GOk (n : Int) es) : Ep (fun k => impl_GroupOrder.f k (n : Int) es) (· = dlap es (vsL n 0)) := by
 simp only [impl_GroupOrder.f]
 refine Ep.bind (implCountTrees hg) ?_
 rintro _ rfl
 exact Ep.now rfl
theorem implMagnitude (x : Int) (hx : -4611686018427387904 ≤ x ∧ x ≤ 4611686018427387904) : impl_magnitude.f x = some (x.natAbs : Int) := by
 unfold impl_magnitude.f
 rw [wrap_id (by omega) (by omega)]
 unfold mx
 exact congrArg some (by split <;> omega)
theorem implDivisor : ∀ (d : Nat) (x y : Int), y.natAbs ≤ d → (-4611686018427387904 ≤ x ∧ x ≤ 4611686018427387904) → (-4611686018427387904 ≤ y ∧ y ≤ 4611686018427387904) → Ep (fun k => impl_divisor.l0 k x y) (· = ((Nat.gcd x.natAbs y.natAbs : Nat) : Int)) := by
 intro d
 induction d with
 | zero =>
  intro x y hd hx hy
  refine Ep.up ?_
  simp only [impl_divisor.l0]
  refine Ep.pos (by omega) (Ep.bind0 (implMagnitude x hx) (Ep.now ?_))
  rw [show y.natAbs = 0 by omega, Nat.gcd_zero_right]
 | succ d ih =>
  intro x y hd hx hy
  refine Ep.up ?_
  simp only [impl_divisor.l0]
  by_cases c : y = 0
  ·refine Ep.pos c (Ep.bind0 (implMagnitude x hx) (Ep.now ?_))
   rw [c, Int.natAbs_zero, Nat.gcd_zero_right]
  ·refine Ep.neg c ?_
   have e : (Int.tmod x y).natAbs = x.natAbs % y.natAbs := Int.natAbs_tmod x y
   have hlt : x.natAbs % y.natAbs < y.natAbs := Nat.mod_lt _ (by omega)
   refine (ih y (Int.tmod x y) (by omega) hy (by omega)).mono fun v hv => ?_
   rw [hv, e, Nat.gcd_comm x.natAbs y.natAbs, Nat.gcd_rec y.natAbs x.natAbs, Nat.gcd_comm]
theorem implDivisor_f {x y : Int} (hx : -4611686018427387904 ≤ x ∧ x ≤ 4611686018427387904) (hy : -4611686018427387904 ≤ y ∧ y ≤ 4611686018427387904) : Ep (fun k => impl_divisor.f k x y) (· = ((Nat.gcd x.natAbs y.natAbs : Nat) : Int)) := implDivisor _ x y (Nat.le_refl _) hx hy
def mins (M : List (List Int)) (k : Nat) (L : List (Nat × Nat)) : List Int := (L.filter fun p => (bitsL p.1).length == k && (bitsL p.2).length == k).map fun p => detL M (bitsL p.1) (bitsL p.2)
def gOf (M : List (List Int)) (k : Nat) (L : List (Nat × Nat)) : Nat := gcdF (mins M k L) 0
def prs (m a b : Nat) : List (Nat × Nat) := ((List.range a).flatMap fun x => (List.range (2 ^ m)).map fun y => (x, y)) ++ (List.range b).map fun y => (a, y)
theorem prs_succ (m a b : Nat) : prs m a (b + 1) = prs m a b ++ [(a, b)] := by
 unfold prs
 rw [List.range_succ, List.map_append, ← List.append_assoc]
 rfl
theorem prs_next (m a : Nat) : prs m a (2 ^ m) = prs m (a + 1) 0 := by
 unfold prs
 rw [List.range_succ (n := a), List.flatMap_append]
 simp
theorem mins_app (M : List (List Int)) (k : Nat) (L : List (Nat × Nat)) (p : Nat × Nat) : mins M k (L ++ [p]) = mins M k L ++ (if (bitsL p.1).length = k ∧ (bitsL p.2).length = k then [detL M (bitsL p.1) (bitsL p.2)] else []) := by
 unfold mins
 rw [List.filter_append, List.map_append]
 congr 1
 by_cases c : (bitsL p.1).length = k ∧ (bitsL p.2).length = k
 ·rw [if_pos c, List.filter_cons_of_pos (by simp [c.1, c.2])]; rfl
 ·rw [if_neg c, List.filter_cons_of_neg (by simpa using c)]; rfl
theorem gOf_app (M : List (List Int)) (k : Nat) (L : List (Nat × Nat)) (p : Nat × Nat) : gOf M k (L ++ [p]) = if (bitsL p.1).length = k ∧ (bitsL p.2).length = k then Nat.gcd (gOf M k L) (detL M (bitsL p.1) (bitsL p.2)).natAbs else gOf M k L := by
 unfold gOf
 rw [mins_app, gcdF_app]
 by_cases c : (bitsL p.1).length = k ∧ (bitsL p.2).length = k
 ·rw [if_pos c, if_pos c]; rfl
 ·rw [if_neg c, if_neg c]; rfl
theorem bitsL_lt : ∀ (m : Fin 6) (a : Fin 64), a.val < 2 ^ m.val → (bitsL a.val).length ≤ m.val ∧ (∀ x ∈ bitsL a.val, 0 ≤ x ∧ x < (m.val : Int)) ∧ (bitsL a.val).Pairwise (· < ·) := by decide
theorem bitsL_inc {m a : Nat} (hm : m ≤ 5) (ha : a < 2 ^ m) : Inc m (bitsL a).length (bitsL a) ∧ (bitsL a).length ≤ m := by
 have h32 := Nat.pow_le_pow_right (show 0 < 2 by omega) hm
 obtain ⟨h1, h2, h3⟩ := bitsL_lt ⟨m, by omega⟩ ⟨a, by omega⟩ ha
 exact ⟨⟨rfl, h3, h2⟩, h1⟩
def msk (b0 b1 b2 b3 b4 b5 : Bool) : Nat := b0.toNat + 2 * b1.toNat + 4 * b2.toNat + 8 * b3.toNat + 16 * b4.toNat + 32 * b5.toNat
theorem msk_ok : ∀ b0 b1 b2 b3 b4 b5 : Bool, msk b0 b1 b2 b3 b4 b5 < 64 ∧ ((msk b0 b1 b2 b3 b4 b5).testBit 0 = b0 ∧ (msk b0 b1 b2 b3 b4 b5).testBit 1 = b1 ∧ (msk b0 b1 b2 b3 b4 b5).testBit 2 = b2) ∧ (msk b0 b1 b2 b3 b4 b5).testBit 3 = b3 ∧ (msk b0 b1 b2 b3 b4 b5).testBit 4 = b4 ∧ (msk b0 b1 b2 b3 b4 b5).testBit 5 = b5 := by decide
theorem lt_of_bits : ∀ (m : Fin 6) (a : Fin 64), (∀ x ∈ bitsL a.val, x < (m.val : Int)) → a.val < 2 ^ m.val := by decide
theorem inc_ext : ∀ {l l' : List Int}, l.Pairwise (· < ·) → l'.Pairwise (· < ·) → (∀ x, x ∈ l ↔ x ∈ l') → l = l'
 | [], [], _, _, _ => rfl
 | [], y :: l', _, _, h => absurd ((h y).2 List.mem_cons_self) (by simp)
 | x :: l, [], _, _, h => absurd ((h x).1 List.mem_cons_self) (by simp)
 | x :: l, y :: l', h1, h2, h => by
  rw [List.pairwise_cons] at h1 h2
  have e : x = y := by
   rcases List.mem_cons.1 ((h x).1 List.mem_cons_self) with e | e
   ·exact e
   ·rcases List.mem_cons.1 ((h y).2 List.mem_cons_self) with e' | e'
    ·exact e'.symm
    ·have := h2.1 x e
     have := h1.1 y e'
     omega
  subst e
  rw [inc_ext h1.2 h2.2 fun z => ⟨fun hz => ?_, fun hz => ?_⟩]
  ·rcases List.mem_cons.1 ((h z).1 (List.mem_cons_of_mem _ hz)) with e | e
   ·have := h1.1 z hz
    omega
   ·exact e
  ·rcases List.mem_cons.1 ((h z).2 (List.mem_cons_of_mem _ hz)) with e | e
   ·have := h2.1 z hz
    omega
   ·exact e
theorem inc_bits {m k : Nat} (hm : m ≤ 5) {l : List Int} (h : Inc m k l) : ∃ a, a < 2 ^ m ∧ bitsL a = l := by
 obtain ⟨h1, ⟨t0, t1, t2⟩, t3, t4, t5⟩ := msk_ok (decide ((0 : Int) ∈ l)) (decide ((1 : Int) ∈ l)) (decide ((2 : Int) ∈ l)) (decide ((3 : Int) ∈ l)) (decide ((4 : Int) ∈ l)) (decide ((5 : Int) ∈ l))
 generalize msk (decide ((0 : Int) ∈ l)) (decide ((1 : Int) ∈ l)) (decide ((2 : Int) ∈ l)) (decide ((3 : Int) ∈ l)) (decide ((4 : Int) ∈ l)) (decide ((5 : Int) ∈ l)) = a at *
 have e : bitsL a = l := by
  have h6 := (bitsL_lt ⟨5, by omega⟩)
  refine inc_ext ?_ h.2.1 fun x => ?_
  ·unfold bitsL bitsB
   refine List.Pairwise.map _ (fun a b h => ?_) (List.Pairwise.filter _ (List.pairwise_lt_range))
   omega
  ·unfold bitsL bitsB
   rw [List.mem_map]
   constructor
   ·rintro ⟨j, hj, rfl⟩
    rw [List.mem_filter, List.mem_range] at hj
    obtain ⟨hj, hb⟩ := hj
    rcases (show j = 0 ∨ j = 1 ∨ j = 2 ∨ j = 3 ∨ j = 4 ∨ j = 5 by omega) with rfl | rfl | rfl | rfl | rfl | rfl
    ·rw [t0] at hb; exact of_decide_eq_true hb
    ·rw [t1] at hb; exact of_decide_eq_true hb
    ·rw [t2] at hb; exact of_decide_eq_true hb
    ·rw [t3] at hb; exact of_decide_eq_true hb
    ·rw [t4] at hb; exact of_decide_eq_true hb
    ·rw [t5] at hb; exact of_decide_eq_true hb
   ·intro hx
    have hb := h.2.2 x hx
    refine ⟨x.toNat, List.mem_filter.2 ⟨List.mem_range.2 (by omega), ?_⟩, by omega⟩
    rcases (show x = 0 ∨ x = 1 ∨ x = 2 ∨ x = 3 ∨ x = 4 by omega) with rfl | rfl | rfl | rfl | rfl
    ·exact t0.trans (decide_eq_true hx)
    ·exact t1.trans (decide_eq_true hx)
    ·exact t2.trans (decide_eq_true hx)
    ·exact t3.trans (decide_eq_true hx)
    ·exact t4.trans (decide_eq_true hx)
 refine ⟨a, lt_of_bits ⟨m, by omega⟩ ⟨a, h1⟩ (fun x hx => ?_), e⟩
 rw [e] at hx
 exact (h.2.2 x hx).2
theorem prs_mem {m a b x y : Nat} : (x, y) ∈ prs m a b ↔ (x < a ∧ y < 2 ^ m) ∨ (x = a ∧ y < b) := by
 unfold prs
 simp only [List.mem_append, List.mem_flatMap, List.mem_map, List.mem_range, Prod.mk.injEq]
 constructor
 ·rintro (⟨x', h1, y', h2, rfl, rfl⟩ | ⟨y', h2, rfl, rfl⟩)
  ·exact Or.inl ⟨h1, h2⟩
  ·exact Or.inr ⟨rfl, h2⟩
 ·rintro (⟨h1, h2⟩ | ⟨rfl, h2⟩)
  ·exact Or.inl ⟨x, h1, y, h2, rfl, rfl⟩
  ·exact Or.inr ⟨y, h2, rfl, rfl⟩
def gK (m : Nat) (M : List (List Int)) (k : Nat) : Nat := gOf M k (prs m (2 ^ m) 0)
theorem gK_dvd {m : Nat} (hm : m ≤ 5) (M : List (List Int)) {k : Nat} {rs cs : List Int} (hr : Inc m k rs) (hc : Inc m k cs) : gK m M k ∣ (detL M rs cs).natAbs := by
 obtain ⟨a, ha, rfl⟩ := inc_bits hm hr
 obtain ⟨b, hb, rfl⟩ := inc_bits hm hc
 refine ((gcdF_dvd (mins M k (prs m (2 ^ m) 0)) 0).1 (Nat.dvd_refl _)).2 _ ?_
 unfold mins
 refine List.mem_map.2 ⟨(a, b), List.mem_filter.2 ⟨prs_mem.2 (Or.inl ⟨ha, hb⟩), ?_⟩, rfl⟩
 simp [hr.1, hc.1]
theorem gK_zero {m : Nat} (hm : m ≤ 5) (M : List (List Int)) {k : Nat} : gK m M k = 0 ↔ ∀ rs cs, Inc m k rs → Inc m k cs → detL M rs cs = 0 := by
 constructor
 ·intro h rs cs hr hc
  have := gK_dvd hm M hr hc
  rw [h, Nat.zero_dvd] at this
  omega
 ·intro h
  refine gcdF_zero.2 fun x hx => ?_
  unfold mins at hx
  obtain ⟨⟨a, b⟩, hp, rfl⟩ := List.mem_map.1 hx
  rw [List.mem_filter] at hp
  have hab := prs_mem.1 hp.1
  have hs := hp.2
  simp only [Bool.and_eq_true, beq_iff_eq] at hs
  have h1 := (bitsL_inc hm (a := a) (by omega)).1
  have h2 := (bitsL_inc hm (a := b) (by omega)).1
  rw [hs.1] at h1
  rw [hs.2] at h2
  exact h _ _ h1 h2
theorem gK_next {m : Nat} (hm : m ≤ 5) (M : List (List Int)) {k : Nat} (h : gK m M k = 0) : gK m M (k + 1) = 0 := (gK_zero hm M).2 fun _ _ hr hc => minors_zero ((gK_zero hm M).1 h) hr hc
theorem gcdF_le {B : Nat} {l : List Int} (h : ∀ x ∈ l, x.natAbs ≤ B) : gcdF l 0 ≤ B := by
 by_cases c : gcdF l 0 = 0
 ·omega
 ·have h1 : ¬ ∀ x ∈ l, x = 0 := fun x => c (gcdF_zero.2 x)
  have h2 : ∃ x, x ∈ l ∧ x ≠ 0 := Classical.byContradiction fun n => h1 fun x hx => Classical.byContradiction fun y => n ⟨x, hx, y⟩
  obtain ⟨x, hx, hx0⟩ := h2
  exact Nat.le_trans (Nat.le_of_dvd (by omega) (((gcdF_dvd l 0).1 (Nat.dvd_refl _)).2 x hx)) (h x hx)
theorem gOf_le {m : Nat} (hm : m ≤ 5) {M : List (List Int)} (hM : SqOk m M) {L : List (Nat × Nat)} (hL : ∀ p ∈ L, p.1 < 2 ^ m ∧ p.2 < 2 ^ m) (k : Nat) : gOf M k L ≤ 1934917632 := by
 refine gcdF_le fun x hx => ?_
 unfold mins at hx
 obtain ⟨p, hp, rfl⟩ := List.mem_map.1 hx
 rw [List.mem_filter] at hp
 have h1 := (bitsL_inc hm (hL p hp.1).1).2
 have h2 := (bitsL_inc hm (hL p hp.1).2).2
 have := det_bd hM (rs := bitsL p.1) (cs := bitsL p.2) (by omega) (by omega)
 omega
def gLs (m : Nat) (M : List (List Int)) (L : List (Nat × Nat)) : List Int := (List.range (m + 1)).map fun k => ((gOf M k L : Nat) : Int)
theorem gLs_len (m : Nat) (M : List (List Int)) (L : List (Nat × Nat)) : (gLs m M L).length = m + 1 := by simp [gLs]
theorem gLs_rd {m : Nat} (M : List (List Int)) (L : List (Nat × Nat)) {k : Nat} (hk : k ≤ m) : rd (gLs m M L) (k : Int) = ((gOf M k L : Nat) : Int) := by
 unfold rd gLs
 simp [List.getD, show k < m + 1 by omega]
theorem gLs_set {m : Nat} (M : List (List Int)) (L : List (Nat × Nat)) {p : Nat × Nat} {k : Nat} (h1 : (bitsL p.1).length = k) (h2 : (bitsL p.2).length = k) :
  (gLs m M L).set k ((Nat.gcd (gOf M k L) (detL M (bitsL p.1) (bitsL p.2)).natAbs : Nat) : Int) = gLs m M (L ++ [p]) := by
 refine List.ext_getElem (by simp [gLs]) fun i hi hi' => ?_
 rw [List.getElem_set]
 unfold gLs at hi' ⊢
 rw [List.getElem_map, List.getElem_range, List.getElem_map, List.getElem_range, gOf_app]
 by_cases c : k = i
 ·subst c
  rw [if_pos rfl, if_pos ⟨h1, h2⟩]
 ·rw [if_neg c, if_neg (fun x => c (h1.symm.trans x.1))]
theorem gLs_skip {m : Nat} (M : List (List Int)) (L : List (Nat × Nat)) {p : Nat × Nat} (h : (bitsL p.2).length ≠ (bitsL p.1).length) : gLs m M L = gLs m M (L ++ [p]) := by
 unfold gLs
 refine List.map_congr_left fun k _ => ?_
 rw [gOf_app, if_neg (fun x => h (x.2.trans x.1.symm))]
def invF (m : Nat) (M : List (List Int)) (i : Nat) : Int := if gK m M (i + 1) = 0 then 0 else ((gK m M (i + 1) / gK m M i : Nat) : Int)
def invL (m : Nat) (M : List (List Int)) : List Int := (List.range m).map fun i => invF m M i
theorem invL_take (m : Nat) (M : List (List Int)) {i : Nat} (hi : i < m) : (invL m M).take (i + 1) = (invL m M).take i ++ [invF m M i] := by
 rw [List.take_succ_eq_append_getElem (by simp [invL]; exact hi)]
 simp [invL]
theorem gK_le {m : Nat} (hm : m ≤ 5) {M : List (List Int)} (hM : SqOk m M) (k : Nat) : gK m M k ≤ 1934917632 := gOf_le hm hM (fun p hp => by
 have := prs_mem.1 (show (p.1, p.2) ∈ _ from hp)
 omega) k
theorem implInv_l2 {m : Nat} (hm : m ≤ 5) {M : List (List Int)} (hM : SqOk m M) : ∀ (d i : Nat), i + d = m → Ep (fun k => impl_InvariantFactors.l2 k (gLs m M (prs m (2 ^ m) 0)) ((invL m M).take i) (m : Int) (i : Int)) (· = invL m M) := by
 intro d
 induction d with
 | zero =>
  intro i hi
  refine Ep.up ?_
  simp only [impl_InvariantFactors.l2]
  refine Ep.neg (by omega) (Ep.now ?_)
  rw [List.take_of_length_le (by simp [invL]; omega)]
 | succ d ih =>
  intro i hi
  have h := ih (i + 1) (by omega)
  rw [invL_take m M (by omega)] at h
  have hl := gLs_len m M (prs m (2 ^ m) 0)
  have htl : ((invL m M).take i).length ≤ 5 := by rw [List.length_take]; simp [invL]; omega
  have e1 : rd (gLs m M (prs m (2 ^ m) 0)) ((i + 1 : Nat) : Int) = ((gK m M (i + 1) : Nat) : Int) := gLs_rd M _ (by omega)
  have e0 : rd (gLs m M (prs m (2 ^ m) 0)) (i : Int) = ((gK m M i : Nat) : Int) := gLs_rd M _ (by omega)
  have hb := gK_le hm hM (i + 1)
  refine Ep.up ?_
  simp only [impl_InvariantFactors.l2]
  rw [wrap_succ (by omega), e1, e0]
  refine Ep.pos (by omega) (Ep.pos (by omega) (Ep.pos (by omega) ?_))
  unfold invF at h
  by_cases c : gK m M (i + 1) = 0
  ·rw [if_pos c] at h
   exact Ep.pos (by omega) (Ep.pos (by omega) h)
  ·rw [if_neg c] at h
   have c0 : gK m M i ≠ 0 := fun x => c (gK_next hm M x)
   have hd : gK m M (i + 1) / gK m M i ≤ gK m M (i + 1) := Nat.div_le_self _ _
   have e : wrap64 (Int.tdiv ((gK m M (i + 1) : Nat) : Int) ((gK m M i : Nat) : Int)) = ((gK m M (i + 1) / gK m M i : Nat) : Int) := by
    have e' : Int.tdiv ((gK m M (i + 1) : Nat) : Int) ((gK m M i : Nat) : Int) = ((gK m M (i + 1) / gK m M i : Nat) : Int) := rfl
    rw [e']
    generalize gK m M (i + 1) / gK m M i = z at hd ⊢
    exact wrap_id (by omega) (by omega)
   refine Ep.neg (by omega) (Ep.pos (by omega) (Ep.pos (by omega) (Ep.neg (by omega) (Ep.pos (by omega) ?_))))
   rw [e]
   exact h
theorem implInv_l1 {m : Nat} (hm : m ≤ 5) {M : List (List Int)} (hM : SqOk m M) {a : Nat} (ha : a < 2 ^ m)
  (hn : Ep (fun k => impl_InvariantFactors.l0 k M (gLs m M (prs m (a + 1) 0)) ((a + 1 : Nat) : Int)) (· = invL m M)) :
  ∀ (d b : Nat), b + d = 2 ^ m → Ep (fun k => impl_InvariantFactors.l1 k M (gLs m M (prs m a b)) (a : Int) (bitsL a) (b : Int)) (· = invL m M) := by
 have h32 := Nat.pow_le_pow_right (show 0 < 2 by omega) hm
 have hsh : shl .i64 1 (M.length : Int) = ((2 ^ m : Nat) : Int) := by rw [hM.1]; exact (bm_full (i := m) (by omega)).2.2.1
 intro d
 induction d with
 | zero =>
  intro b hb
  refine Ep.up ?_
  simp only [impl_InvariantFactors.l1]
  rw [hsh]
  refine Ep.neg (by omega) ?_
  rw [wrap_succ (by omega), show b = 2 ^ m by omega, prs_next]
  exact hn
 | succ d ih =>
  intro b hb
  have h := ih (b + 1) (by omega)
  rw [prs_succ] at h
  refine Ep.up ?_
  simp only [impl_InvariantFactors.l1]
  rw [hsh]
  refine Ep.pos (by omega) (Ep.bind (implBits (m := b) (by omega)) ?_)
  rintro _ rfl
  rw [wrap_succ (by omega)]
  have hia := bitsL_inc hm ha
  by_cases c : (bitsL b).length = (bitsL a).length
  ·have hl := gLs_len m M (prs m a b)
   have hdb := det_bd hM (rs := bitsL a) (cs := bitsL b) (by omega) (by omega)
   have hg := gOf_le hm hM (L := prs m a b) (fun p hp => by
    have := prs_mem.1 (show (p.1, p.2) ∈ _ from hp)
    omega) (bitsL a).length
   refine Ep.pos (by omega) (Ep.pos (by omega) (Ep.pos (by omega) (Ep.bind (implDet hm hM (bitsL a) (by omega) hia.1.2.2 b (by omega)) ?_)))
   rintro _ rfl
   rw [gLs_rd M _ hia.2]
   refine Ep.bind (implDivisor_f (by omega) (by omega)) ?_
   rintro _ rfl
   rw [Int.toNat_natCast, Int.natAbs_natCast, gLs_set M (prs m a b) (p := (a, b)) rfl c]
   exact h
  ·refine Ep.neg (by omega) ?_
   rw [← gLs_skip M (prs m a b) (p := (a, b)) c] at h
   exact h
theorem implInv_l0 {m : Nat} (hm : m ≤ 5) {M : List (List Int)} (hM : SqOk m M) : ∀ (d a : Nat), a + d = 2 ^ m → Ep (fun k => impl_InvariantFactors.l0 k M (gLs m M (prs m a 0)) (a : Int)) (· = invL m M) := by
 have h32 := Nat.pow_le_pow_right (show 0 < 2 by omega) hm
 have hsh : shl .i64 1 (M.length : Int) = ((2 ^ m : Nat) : Int) := by rw [hM.1]; exact (bm_full (i := m) (by omega)).2.2.1
 intro d
 induction d with
 | zero =>
  intro a ha
  refine Ep.up ?_
  simp only [impl_InvariantFactors.l0]
  rw [hsh]
  refine Ep.neg (by omega) ?_
  rw [hM.1, show a = 2 ^ m by omega]
  exact implInv_l2 hm hM m 0 (by omega)
 | succ d ih =>
  intro a ha
  have h := ih (a + 1) (by omega)
  refine Ep.up ?_
  simp only [impl_InvariantFactors.l0]
  rw [hsh]
  refine Ep.pos (by omega) (Ep.bind (implBits (m := a) (by omega)) ?_)
  rintro _ rfl
  exact implInv_l1 hm hM (by omega) h (2 ^ m) 0 (by omega)
theorem implInvariant {m : Nat} (hm : m ≤ 5) {M : List (List Int)} (hM : SqOk m M) : Ep (fun k => impl_InvariantFactors.f k M) (· = invL m M) := by
 simp only [impl_InvariantFactors.f]
 refine Ep.bind (implMatrixOk hm hM) ?_
 rintro _ rfl
 refine Ep.pos rfl (Ep.up ?_)
 simp only [impl_InvariantFactors.j0]
 rw [hM.1]
 by_cases c : m = 0
 ·subst c
  refine Ep.pos (by simp) (Ep.now ?_)
  rfl
 ·refine Ep.neg (by simp; omega) ?_
  rw [wrap_succ (by omega)]
  refine Ep.pos (by omega) (Ep.pos (by omega) ?_)
  rw [Int.toNat_natCast]
  have e : List.replicate (m + 1) (0 : Int) = gLs m M (prs m 0 0) := by
   refine List.ext_getElem (by simp [gLs]) fun i h1 h2 => ?_
   simp [gLs, gOf, mins, prs, gcdF]
  rw [e]
  exact implInv_l0 hm hM (2 ^ m) 0 (by omega)
def factL (L : List Int) : List Int := L.filter fun x => decide (x > 1)
theorem implGF_l0 (L : List Int) (hL : L.length ≤ 100) : ∀ (d i : Nat), i + d = L.length → Ep (fun k => impl_GroupFactors.l0 k (factL (L.take i)) L (L.length : Int) (i : Int)) (· = factL L) := by
 intro d
 induction d with
 | zero =>
  intro i hi
  refine Ep.up ?_
  simp only [impl_GroupFactors.l0]
  refine Ep.neg (by omega) (Ep.now ?_)
  rw [List.take_of_length_le (by omega)]
 | succ d ih =>
  intro i hi
  have h := ih (i + 1) (by omega)
  have hlt : i < L.length := by omega
  have e : rd L (i : Int) = L[i] := by
   unfold rd
   rw [Int.toNat_natCast, List.getD_eq_getElem?_getD, List.getElem?_eq_getElem hlt]
   rfl
  have hl : (factL (L.take i)).length ≤ 100 := Nat.le_trans (List.length_filter_le _ _) (by rw [List.length_take]; omega)
  unfold factL at h
  rw [List.take_succ_eq_append_getElem hlt, List.filter_append] at h
  refine Ep.up ?_
  simp only [impl_GroupFactors.l0]
  refine Ep.pos (by omega) (Ep.pos (by omega) (Ep.pos (by omega) ?_))
  rw [e, wrap_succ (by omega)]
  by_cases c : L[i] > 1
  ·rw [List.filter_cons_of_pos (by simpa using c)] at h
   exact Ep.pos c (Ep.pos (by omega) h)
  ·rw [List.filter_cons_of_neg (by simpa using c), List.filter_nil, List.append_nil] at h
   exact Ep.neg c h
theorem implGroupFactors {n : Nat} {es : List E} (hg : GOk (n : Int) es) : Ep (fun k => impl_GroupFactors.f k (n : Int) es) (· = factL (invL (n - 1) (redM n es 0))) := by
 have hG := hg.1
 unfold EsOk at hG
 simp only [impl_GroupFactors.f]
 refine Ep.bind0 (implGraph _ _) ?_
 rw [gOk_iff.2 hg]
 refine Ep.pos rfl (Ep.bind (implRL hg (q := 0) (by omega)) ?_)
 rintro _ rfl
 refine Ep.bind (implInvariant (by omega) (redM_sq (q := 0) (by omega) hG.2.2.1)) ?_
 rintro _ rfl
 exact implGF_l0 (invL (n - 1) (redM n es 0)) (by simp [invL]; omega) (invL (n - 1) (redM n es 0)).length 0 (by omega)
end Go.Proofs.Ytkcbinohpdhbgaa.Cf
end

section
namespace Go.Proofs.Ytkcbinohpdhbgaa.Cf
set_option linter.unusedVariables false
set_option linter.unusedSimpArgs false
open Go.RowKit Go.Proofs.YtkcbinohpdhbgaaW.PrintWords
def Cnt {α : Type} (S : α → Prop) (k : Int) : Prop := ∃ L : List α, L.Nodup ∧ (∀ x, x ∈ L ↔ S x) ∧ (L.length : Int) = k
open Classical in
theorem nodup_sub {α : Type} : ∀ {L M : List α}, L.Nodup → (∀ x ∈ L, x ∈ M) → L.length ≤ M.length
 | [], M, _, _ => Nat.zero_le _
 | a :: L, M, hn, h => by
  have ha := h a List.mem_cons_self
  have h1 := nodup_sub (L := L) (M := M.erase a) (List.nodup_cons.1 hn).2 fun x hx => by
   have hxa : x ≠ a := fun e => (List.nodup_cons.1 hn).1 (e ▸ hx)
   exact (List.mem_erase_of_ne hxa).2 (h x (List.mem_cons_of_mem _ hx))
  rw [List.length_erase_of_mem ha] at h1
  have := List.length_pos_of_mem ha
  rw [List.length_cons]
  omega
theorem Cnt.unique {α : Type} {S : α → Prop} {k m : Int} (h : Cnt S k) (h' : Cnt S m) : k = m := by
 obtain ⟨L, hL, hs, rfl⟩ := h
 obtain ⟨M, hM, hs', rfl⟩ := h'
 have h1 := nodup_sub hL fun x hx => (hs' x).2 ((hs x).1 hx)
 have h2 := nodup_sub hM fun x hx => (hs x).2 ((hs' x).1 hx)
 omega
theorem Cnt.congr {α : Type} {S T : α → Prop} {k : Int} (h : Cnt S k) (he : ∀ x, T x ↔ S x) : Cnt T k := by
 obtain ⟨L, hL, hs, hk⟩ := h
 exact ⟨L, hL, fun x => (hs x).trans (he x).symm, hk⟩
theorem nodup_map {α β : Type} {f : α → β} : ∀ {L : List α}, (∀ x ∈ L, ∀ y ∈ L, f x = f y → x = y) → L.Nodup → (L.map f).Nodup
 | [], _, _ => List.nodup_nil
 | a :: L, hf, hn => by
  rw [List.map_cons, List.nodup_cons]
  refine ⟨fun h => ?_, nodup_map (fun x hx y hy => hf x (List.mem_cons_of_mem _ hx) y (List.mem_cons_of_mem _ hy)) (List.nodup_cons.1 hn).2⟩
  obtain ⟨x, hx, he⟩ := List.mem_map.1 h
  have := hf x (List.mem_cons_of_mem _ hx) a List.mem_cons_self he
  exact (List.nodup_cons.1 hn).1 (this ▸ hx)
theorem Cnt.image {α β : Type} {S : α → Prop} {T : β → Prop} {k : Int} (h : Cnt S k) (f : α → β) (hf : ∀ x, S x → T (f x)) (hi : ∀ x y, S x → S y → f x = f y → x = y) (hs : ∀ y, T y → ∃ x, S x ∧ f x = y) : Cnt T k := by
 obtain ⟨L, hL, hm, hk⟩ := h
 refine ⟨L.map f, nodup_map (fun x hx y hy => hi x y ((hm x).1 hx) ((hm y).1 hy)) hL, fun y => ?_, by rw [List.length_map]; exact hk⟩
 rw [List.mem_map]
 constructor
 ·rintro ⟨x, hx, rfl⟩
  exact hf x ((hm x).1 hx)
 ·intro hy
  obtain ⟨x, hx, he⟩ := hs y hy
  exact ⟨x, (hm x).2 hx, he⟩
theorem Cnt.or {α : Type} {S T U : α → Prop} {k m : Int} (h : Cnt S k) (h' : Cnt T m) (hd : ∀ x, S x → ¬ T x) (hu : ∀ x, U x ↔ S x ∨ T x) : Cnt U (k + m) := by
 obtain ⟨L, hL, hs, rfl⟩ := h
 obtain ⟨M, hM, hs', rfl⟩ := h'
 refine ⟨L ++ M, List.nodup_append.2 ⟨hL, hM, fun x hx y hy e => hd x ((hs x).1 hx) (e ▸ (hs' y).1 hy)⟩, fun x => ?_, by simp⟩
 rw [List.mem_append, hs, hs', hu]
def Pk (es : List E) (vs : List Int) (p : Int → Int) : Prop := (∀ w, w ∉ vs → p w = 0) ∧ (∀ w ∈ vs, 0 ≤ p w) ∧ ∀ S : Int → Bool, (∀ x, S x = true → x ∈ vs) → (∃ x, S x = true) → ∃ w, S w = true ∧ p w < lap es (ind S) w
theorem lap_perm {es es' : List E} (h : es.Perm es') (s : Int → Int) (w : Int) : lap es s w = lap es' s w := sumE_perm h _
theorem lapE_off {e : E} {S : Int → Bool} {w : Int} (hw : S w = true) (h0 : e.f0 ≠ w) (h1 : e.f1 ≠ w) : lapE (ind S) w e = 0 := by
 unfold lapE
 rw [if_neg h0, if_neg h1]
 rfl
theorem pk_loop {e : E} {es : List E} {vs : List Int} (h0 : e.f0 ∉ vs) (h1 : e.f1 ∉ vs) (p : Int → Int) : Pk (e :: es) vs p ↔ Pk es vs p := by
 have key : ∀ (S : Int → Bool) (w : Int), (∀ x, S x = true → x ∈ vs) → S w = true → lap (e :: es) (ind S) w = lap es (ind S) w := fun S w hS hw => by
  have hwv := hS w hw
  rw [lap_cons, lapE_off hw (fun x => h0 (x ▸ hwv)) (fun x => h1 (x ▸ hwv))]
  omega
 unfold Pk
 constructor
 ·rintro ⟨a, b, c⟩
  exact ⟨a, b, fun S hS hx => by
   obtain ⟨w, hw, hl⟩ := c S hS hx
   exact ⟨w, hw, by rw [← key S w hS hw]; exact hl⟩⟩
 ·rintro ⟨a, b, c⟩
  exact ⟨a, b, fun S hS hx => by
   obtain ⟨w, hw, hl⟩ := c S hS hx
   exact ⟨w, hw, by rw [key S w hS hw]; exact hl⟩⟩
theorem lap_nonneg {es : List E} {S : Int → Bool} {w : Int} (hw : S w = true) : 0 ≤ lap es (ind S) w := sumE_nonneg fun e _ => by
 unfold lapE ind
 by_cases a : e.f0 = w
 ·rw [if_pos a, a, hw]
  by_cases b : e.f1 = w
  ·rw [if_pos b, b, hw]; simp
  ·rw [if_neg b]; cases S e.f1 <;> simp
 ·rw [if_neg a]
  by_cases b : e.f1 = w
  ·rw [if_pos b, b, hw]; cases S e.f0 <;> simp
  ·rw [if_neg b]; simp
theorem pk_cut {e : E} {es : List E} {vs : List Int} {u v : Int} (huv : (e.f0 = u ∧ e.f1 = v) ∨ (e.f0 = v ∧ e.f1 = u)) (hn : vs.Nodup) (hv : v ∈ vs) (hu : u ∉ vs) (p : Int → Int) :
  Pk (e :: es) vs p ↔ (∃ p', Pk es vs p' ∧ (fun w => p' w + one v 1 w) = p) ∨ Pk es (vs.erase v) p := by
 have hne : u ≠ v := fun x => hu (x ▸ hv)
 have atv : ∀ S : Int → Bool, (∀ x, S x = true → x ∈ vs) → S v = true → lap (e :: es) (ind S) v = 1 + lap es (ind S) v := fun S hS hw => by
  have hSu : S u = false := by
   cases h : S u with
   | false => rfl
   | true => exact absurd (hS u h) hu
  rw [lap_cons]
  congr 1
  unfold lapE ind
  rcases huv with ⟨a, b⟩ | ⟨a, b⟩
  ·rw [a, b, if_neg hne, if_pos rfl, hw, hSu]; rfl
  ·rw [a, b, if_pos rfl, if_neg hne, hw, hSu]; rfl
 have off : ∀ (S : Int → Bool) (w : Int), (∀ x, S x = true → x ∈ vs) → S w = true → w ≠ v → lap (e :: es) (ind S) w = lap es (ind S) w := fun S w hS hw hwv => by
  have hwu : w ≠ u := fun x => hu (x ▸ hS w hw)
  rw [lap_cons, lapE_off hw (by rcases huv with ⟨a, b⟩ | ⟨a, b⟩ <;> omega) (by rcases huv with ⟨a, b⟩ | ⟨a, b⟩ <;> omega)]
  omega
 constructor
 ·rintro ⟨h1, h2, h3⟩
  by_cases hp : p v = 0
  ·refine .inr ⟨fun w hw => ?_, fun w hw => h2 w (List.mem_of_mem_erase hw), fun S hS hx => ?_⟩
   ·by_cases c : w = v
    ·rw [c, hp]
    ·exact h1 w fun q => hw (hn.mem_erase_iff.2 ⟨c, q⟩)
   ·obtain ⟨w, hw, hl⟩ := h3 S (fun x hx => List.mem_of_mem_erase (hS x hx)) hx
    have hwv : w ≠ v := (hn.mem_erase_iff.1 (hS w hw)).1
    exact ⟨w, hw, by rw [← off S w (fun x hx => List.mem_of_mem_erase (hS x hx)) hw hwv]; exact hl⟩
  ·refine .inl ⟨fun w => p w - one v 1 w, ⟨fun w hw => ?_, fun w hw => ?_, fun S hS hx => ?_⟩, funext fun w => by show p w - one v 1 w + one v 1 w = p w; omega⟩
   ·have hwv : w ≠ v := fun x => hw (x ▸ hv)
    have : one v 1 w = 0 := if_neg hwv
    show p w - one v 1 w = 0
    rw [this, h1 w hw]
    rfl
   ·have := h2 w hw
    show 0 ≤ p w - one v 1 w
    unfold one
    by_cases c : w = v
    ·rw [if_pos c]
     have h0 := h2 v hv
     rw [c]
     omega
    ·rw [if_neg c]; omega
   ·obtain ⟨w, hw, hl⟩ := h3 S hS hx
    refine ⟨w, hw, ?_⟩
    show p w - one v 1 w < _
    unfold one
    by_cases c : w = v
    ·rw [if_pos c]
     rw [c] at hl hw ⊢
     rw [atv S hS hw] at hl
     omega
    ·rw [if_neg c]
     rw [off S w hS hw c] at hl
     omega
 ·rintro (⟨p', ⟨h1, h2, h3⟩, rfl⟩ | ⟨h1, h2, h3⟩)
  ·refine ⟨fun w hw => ?_, fun w hw => ?_, fun S hS hx => ?_⟩
   ·have hwv : w ≠ v := fun x => hw (x ▸ hv)
    have : one v 1 w = 0 := if_neg hwv
    show p' w + one v 1 w = 0
    rw [this, h1 w hw]
    rfl
   ·have := h2 w hw
    show 0 ≤ p' w + one v 1 w
    unfold one
    split <;> omega
   ·obtain ⟨w, hw, hl⟩ := h3 S hS hx
    refine ⟨w, hw, ?_⟩
    show p' w + one v 1 w < _
    unfold one
    by_cases c : w = v
    ·rw [if_pos c]
     rw [c] at hl hw ⊢
     rw [atv S hS hw]
     omega
    ·rw [if_neg c, off S w hS hw c]
     omega
  ·have hpv : p v = 0 := h1 v fun q => (hn.mem_erase_iff.1 q).1 rfl
   refine ⟨fun w hw => h1 w fun q => hw (List.mem_of_mem_erase q), fun w hw => ?_, fun S hS hx => ?_⟩
   ·by_cases c : w = v
    ·rw [c, hpv]; exact Int.le_refl _
    ·exact h2 w (hn.mem_erase_iff.2 ⟨c, hw⟩)
   ·by_cases c : S v = true
    ·refine ⟨v, c, ?_⟩
     rw [atv S hS c, hpv]
     have := lap_nonneg (es := es) c
     omega
    ·obtain ⟨w, hw, hl⟩ := h3 S (fun x hx => hn.mem_erase_iff.2 ⟨fun q => c (q ▸ hx), hS x hx⟩) hx
     exact ⟨w, hw, by rw [off S w hS hw fun q => c (q ▸ hw)]; exact hl⟩
theorem pk_far {es : List E} {vs : List Int} (hv : vs ≠ []) (hf : ∀ e ∈ es, e.f0 ∈ vs ↔ e.f1 ∈ vs) (p : Int → Int) : ¬ Pk es vs p := by
 rintro ⟨h1, h2, h3⟩
 obtain ⟨w, hw, hl⟩ := h3 (fun x => decide (x ∈ vs)) (fun x hx => by simpa using hx) (by
  cases vs with
  | nil => exact absurd rfl hv
  | cons v vs => exact ⟨v, by simp⟩)
 have hwv : w ∈ vs := by simpa using hw
 have h0 := h2 w hwv
 have : lap es (ind fun x => decide (x ∈ vs)) w = 0 := sumE_zero fun e he => by
  have hfe := hf e he
  unfold lapE ind
  by_cases a : e.f0 ∈ vs
  ·have b := hfe.1 a
   simp [a, b]
  ·have b : e.f1 ∉ vs := fun q => a (hfe.2 q)
   simp [a, b]
 omega
theorem pk_recR : RecR 1 fun es vs k => Cnt (Pk es vs) k where
 perm := fun {es es' vs k} h hk => hk.congr fun p => by
  unfold Pk
  simp only [lap_perm h]
 nil := ⟨[fun _ => 0], by simp, fun p => by
  rw [List.mem_singleton]
  constructor
  ·rintro rfl
   exact ⟨fun _ _ => rfl, fun w hw => by simp at hw, fun S hS hx => by obtain ⟨x, hx⟩ := hx; have := hS x hx; simp at this⟩
  ·rintro ⟨h, _⟩
   exact funext fun w => h w (by simp), rfl⟩
 loop := fun e es vs k _ h0 h1 hk => by rw [Int.one_mul]; exact hk.congr fun p => pk_loop h0 h1 p
 cut := fun e es vs u v k k' huv _ hn hv hu hk hk' => by
  refine Cnt.or (S := fun p => ∃ p', Pk es vs p' ∧ (fun w => p' w + one v 1 w) = p) (hk.image (fun p' w => p' w + one v 1 w) (fun p hp => ⟨p, hp, rfl⟩) (fun x y _ _ he => funext fun w => by have h := congrFun he w; have h' : x w + one v 1 w = y w + one v 1 w := h; omega) fun y hy => hy) hk' (fun p hp hp' => ?_) (pk_cut huv hn hv hu)
  obtain ⟨p', h', rfl⟩ := hp
  have h1 := hp'.1 v fun q => (hn.mem_erase_iff.1 q).1 rfl
  have h2 := h'.2.1 v hv
  have : one v 1 v = 1 := if_pos rfl
  dsimp only at h1
  omega
 far := fun es vs _ _ hv hf => ⟨[], List.nodup_nil, fun p => ⟨fun h => absurd h (by simp), fun h => absurd h (pk_far hv hf p)⟩, rfl⟩
theorem pk_count {es : List E} {vs : List Int} (hl : ∀ x ∈ es, x.f0 ≠ x.f1) (hn : vs.Nodup) : Cnt (Pk es vs) (dlap es vs) := RecR.of dlap_rec pk_recR es.length es vs rfl hl hn
end Go.Proofs.Ytkcbinohpdhbgaa.Cf
end

section
namespace Go.Proofs.Ytkcbinohpdhbgaa.Cf
set_option linter.unusedVariables false
set_option linter.unusedSimpArgs false
open Go.RowKit Go.Proofs.YtkcbinohpdhbgaaW.PrintWords Go.Proofs.Ytkcbinohpdhbgaa.P
def lcols (es : List E) (vs : List Int) : List Col := vs.map fun c r => lapM es r c
theorem lcols_len (es : List E) (vs : List Int) : (lcols es vs).length = vs.length := by simp [lcols]
theorem lapM_one {n : Int} {es : List E} (hes : ∀ e ∈ es, EOk n e) (v t w : Int) : lap es (one v t) w = t * lapM es w v := by
 unfold lapM
 by_cases c : w = v
 ·rw [if_pos c, c, lap_one_self hes]
 ·rw [if_neg c, lap_one_ne hes c, Int.mul_neg, mult_symm]
theorem lap_parts {n : Int} {es : List E} (hes : ∀ e ∈ es, EOk n e) (s : Int → Int) (w : Int) : ∀ l : List Int, lap es (fun x => (l.map fun v => one v (s v) x).sum) w = (l.map fun v => s v * lapM es w v).sum
 | [] => lap_const (c := 0) (fun _ _ => ⟨rfl, rfl⟩) w
 | v :: l => by
  have e : (fun x => ((v :: l).map fun v => one v (s v) x).sum) = fun x => one v (s v) x + (l.map fun v => one v (s v) x).sum := by
   funext x
   rw [List.map_cons, List.sum_cons]
  rw [e, lap_add, lap_parts hes s w l, lapM_one hes, List.map_cons, List.sum_cons]
theorem one_parts (s : Int → Int) (x : Int) : ∀ l : List Int, l.Nodup → (l.map fun v => one v (s v) x).sum = if x ∈ l then s x else 0
 | [], _ => rfl
 | v :: l, h => by
  rw [List.nodup_cons] at h
  rw [List.map_cons, List.sum_cons, one_parts s x l h.2]
  unfold one
  by_cases c : x = v
  ·subst c
   rw [if_pos rfl, if_neg h.1, if_pos List.mem_cons_self]
   omega
  ·rw [if_neg c]
   by_cases d : x ∈ l
   ·rw [if_pos d, if_pos (List.mem_cons_of_mem _ d)]
    omega
   ·rw [if_neg d, if_neg (fun y => (List.mem_cons.1 y).elim c d)]
    omega
theorem lap_cols {n : Nat} (h1 : 1 ≤ n) {es : List E} (hes : ∀ e ∈ es, EOk n e) {s : Int → Int} (h0 : s 0 = 0) (w : Int) : lap es s w = ((vsL n 0).map fun v => s v * lapM es w v).sum := by
 rw [← lap_parts hes s w (vsL n 0)]
 refine lap_congr hes (fun v v0 v1 => ?_) w
 rw [one_parts s v _ (vsL_nodup n 0)]
 have hm : v ∈ vsL n 0 ↔ (0 ≤ v ∧ v < n) ∧ v ≠ 0 := vsL_mem (q := 0) (by omega)
 by_cases c : v = 0
 ·rw [if_neg (fun x => (hm.1 x).2 c), c, h0]
 ·rw [if_pos (hm.2 ⟨⟨v0, v1⟩, c⟩)]
theorem sum_at {p : Nat} (f : Nat → Int) : ∀ k : Nat, p < k → ((List.range k).map f).sum = f p + (((List.range k).filter fun j => decide (j ≠ p)).map f).sum
 | k + 1, h => by
  rw [List.range_succ, List.map_append, List.sum_append, List.filter_append, List.map_append, List.sum_append]
  by_cases c : p = k
  ·subst c
   have e : (List.range p).filter (fun j => decide (j ≠ p)) = List.range p := List.filter_eq_self.2 fun j hj => by
    have := List.mem_range.1 hj
    exact decide_eq_true (by omega)
   rw [e, List.filter_cons_of_neg (by simp)]
   simp
   omega
  ·rw [sum_at (p := p) f k (by omega), List.filter_cons_of_pos (by simpa using fun x => c x.symm)]
   simp
   omega
 | 0, h => absurd h (by omega)
theorem map_range_getD (f : Int → Int) (vs : List Int) : vs.map f = (List.range vs.length).map fun j => f (vs.getD j 0) := by
 refine List.ext_getElem (by simp) fun i h1 h2 => ?_
 simp only [List.length_map] at h1
 simp [List.getD, h1]
theorem cramer {es : List E} {vs : List Int} {s : Int → Int} {b : Col} (hb : ∀ r ∈ vs, b r = (vs.map fun v => s v * lapM es r v).sum) {p : Nat} (hp : p < vs.length) : detC vs ((lcols es vs).set p b) = s (vs.getD p 0) * dlap es vs := by
 have hl := lcols_len es vs
 let L : List (Int × Nat) := ((List.range vs.length).filter fun j => decide (j ≠ p)).map fun j => (s (vs.getD j 0), j)
 have hc := detC_comb (rs := vs) (cs := lcols es vs) (p := p) hl.symm (by omega) L fun x hx => by
  obtain ⟨j, hj, rfl⟩ := List.mem_map.1 hx
  rw [List.mem_filter, List.mem_range] at hj
  exact ⟨by show j < _; omega, of_decide_eq_true hj.2⟩
 have hcol : ∀ j, j < vs.length → (lcols es vs).getD j z0 = fun r => lapM es r (vs.getD j 0) := fun j hj => getD_map (fun c r => lapM es r c) vs j 0 z0 hj
 have e := detC_lin (fun r => (L.map fun x => x.1 * ((lcols es vs).getD x.2 z0) r).sum) ((lcols es vs).getD p z0) (s (vs.getD p 0)) (rs := vs) (cs := lcols es vs) (p := p) hl.symm (by omega)
 rw [hc, set_self z0 (by omega), Int.zero_add] at e
 unfold dlap
 rw [show (vs.map fun c r => lapM es r c) = lcols es vs from rfl, ← e]
 refine detC_congr (by simp) fun i hi r hr => ?_
 rw [getD_set, getD_set]
 by_cases c : i = p ∧ p < (lcols es vs).length
 ·rw [if_pos c, if_pos c, hb r hr, map_range_getD (fun v => s v * lapM es r v), sum_at _ _ hp, List.map_map]
  show _ + _ = _ + s (vs.getD p 0) * (lcols es vs).getD p z0 r
  rw [hcol p hp, Int.add_comm]
  congr 2
  refine List.map_congr_left fun j hj => ?_
  rw [List.mem_filter, List.mem_range] at hj
  show _ = s (vs.getD j 0) * (lcols es vs).getD j z0 r
  rw [hcol j hj.1]
 ·rw [if_neg c, if_neg c]
theorem dvd_col {es : List E} {vs : List Int} (hn : vs.Nodup) {g : Int} {p : Nat} (hp : p < vs.length) (hg : ∀ i, i < vs.length → g ∣ detC (vs.eraseIdx i) ((lcols es vs).eraseIdx p)) (a : Col) : g ∣ detC vs ((lcols es vs).set p a) := by
 have hl := lcols_len es vs
 have key : ∀ l : List Int, (∀ v ∈ l, v ∈ vs) → g ∣ detC vs ((lcols es vs).set p fun r => (l.map fun v => one v (a v) r).sum) := by
  intro l
  induction l with
  | nil =>
   intro _
   rw [show (fun r => (([] : List Int).map fun v => one v (a v) r).sum) = z0 from rfl, detC_null hl.symm (by omega)]
   exact Int.dvd_zero g
  | cons v l ih =>
   intro hv
   have e : (fun r => ((v :: l).map fun v => one v (a v) r).sum) = fun r => (l.map fun v => one v (a v) r).sum + a v * unitC v r := by
    funext r
    rw [List.map_cons, List.sum_cons, Int.add_comm]
    congr 1
    unfold one unitC
    split <;> omega
   rw [e, detC_lin _ _ _ hl.symm (by omega)]
   refine Int.dvd_add (ih fun x hx => hv x (List.mem_cons_of_mem _ hx)) (Int.dvd_mul_of_dvd_right ?_)
   obtain ⟨i, hi, he⟩ := List.getElem_of_mem (hv v List.mem_cons_self)
   rw [detC_unit (i := i) hl.symm (by omega) hn (by rw [List.getElem?_eq_getElem hi, he])]
   exact Int.dvd_mul_of_dvd_right (hg i hi)
 have e : detC vs ((lcols es vs).set p a) = detC vs ((lcols es vs).set p fun r => (vs.map fun v => one v (a v) r).sum) := by
  refine detC_congr (by simp) fun i hi r hr => ?_
  rw [getD_set, getD_set]
  by_cases c : i = p ∧ p < (lcols es vs).length
  ·rw [if_pos c, if_pos c, one_parts a r vs hn, if_pos hr]
  ·rw [if_neg c, if_neg c]
 rw [e]
 exact key vs fun _ h => h
theorem dlap_pos {n : Nat} {es : List E} (g : Gr n es 0) : 1 ≤ dlap es (vsL n 0) := by
 obtain ⟨L, _, hL, hc⟩ := pk_count (es := es) (vs := vsL n 0) (fun x hx => by have := g.hes x hx; unfold EOk at this; omega) (vsL_nodup n 0)
 have hz : Pk es (vsL n 0) fun _ => 0 := by
  refine ⟨fun _ _ => rfl, fun _ _ => Int.le_refl _, fun S hS ⟨x, hx⟩ => ?_⟩
  have n1 := g.n1
  have hx' := (vsL_mem (n := n) (q := 0) (by omega)).1 (hS x hx)
  obtain ⟨w, w0, w1, hw, hlt⟩ := (zeros_red g).2 S (by
   cases c : S 0 with
   | false => rfl
   | true => exact absurd rfl ((vsL_mem (n := n) (q := 0) (by omega)).1 (hS 0 c)).2) ⟨x, hx'.1.1, hx'.1.2, hx⟩
  rw [rd_replicate] at hlt
  exact ⟨w, hw, hlt⟩
 have := List.length_pos_of_mem ((hL _).2 hz)
 omega
theorem bits_top : ∀ (m : Fin 6) (a : Fin 64), a.val < 2 ^ m.val → (bitsL a.val).length = m.val → bitsL a.val = (List.range m.val).map fun j : Nat => (j : Int) := by decide
theorem inc_top {m : Nat} (hm : m ≤ 5) {l : List Int} (h : Inc m m l) : l = upTo m := by
 obtain ⟨a, ha, rfl⟩ := inc_bits hm h
 have h32 := Nat.pow_le_pow_right (show 0 < 2 by omega) hm
 exact bits_top ⟨m, by omega⟩ ⟨a, by omega⟩ ha h.1
theorem upTo_inc (m : Nat) : Inc m m (upTo m) := by
 refine ⟨by simp [upTo], ?_, fun x hx => upTo_mem.1 hx⟩
 unfold upTo
 refine List.Pairwise.map _ (fun a b h => ?_) (List.pairwise_lt_range)
 omega
theorem gK_top {m : Nat} (hm : m ≤ 5) (M : List (List Int)) : gK m M m = (detL M (upTo m) (upTo m)).natAbs := by
 refine Nat.dvd_antisymm (gK_dvd hm M (upTo_inc m) (upTo_inc m)) ?_
 refine (gcdF_dvd _ 0).2 ⟨Nat.dvd_zero _, fun x hx => ?_⟩
 unfold mins at hx
 obtain ⟨⟨a, b⟩, hp, rfl⟩ := List.mem_map.1 hx
 rw [List.mem_filter] at hp
 have hab := prs_mem.1 hp.1
 have hs := hp.2
 simp only [Bool.and_eq_true, beq_iff_eq] at hs
 have h1 := (bitsL_inc hm (a := a) (by omega)).1
 have h2 := (bitsL_inc hm (a := b) (by omega)).1
 rw [hs.1] at h1
 rw [hs.2] at h2
 show _ ∣ (detL M (bitsL a) (bitsL b)).natAbs
 rw [inc_top hm h1, inc_top hm h2]
 exact Nat.dvd_refl _
theorem gK_minor {n : Nat} (h1 : 2 ≤ n) (h6 : n ≤ 6) (es : List E) {i p : Nat} (hi : i < n - 1) (hp : p < n - 1) : ((gK (n - 1) (redM n es 0) (n - 2) : Nat) : Int) ∣ detC ((vsL n 0).eraseIdx i) ((lcols es (vsL n 0)).eraseIdx p) := by
 have hlen := vsL_len (n := n) (q := 0) (by omega)
 have e := upTo_vAt (vsL n 0)
 rw [hlen] at e
 have hinc : ∀ j, j < n - 1 → Inc (n - 1) (n - 2) ((upTo (n - 1)).eraseIdx j) := fun j hj => by
  have h := upTo_inc (n - 1)
  have h' : Inc (n - 1) ((n - 2) + 1) (upTo (n - 1)) := by rw [show n - 2 + 1 = n - 1 by omega]; exact h
  exact h'.erase (by omega)
 have hd := gK_dvd (m := n - 1) (by omega) (redM n es 0) (hinc i hi) (hinc p hp)
 rw [detL_detC (A := lapM es) (v := vAt (vsL n 0)) _ _ fun r hr c hc => redM_ent (by omega) es (upTo_mem.1 (List.mem_of_mem_eraseIdx hr)) (upTo_mem.1 (List.mem_of_mem_eraseIdx hc))] at hd
 rw [← map_eraseIdx, e] at hd
 have e2 : ((upTo (n - 1)).eraseIdx p).map (fun (c r : Int) => lapM es r (vAt (vsL n 0) c)) = (lcols es (vsL n 0)).eraseIdx p := by
  unfold lcols
  rw [← map_eraseIdx]
  congr 1
  have : (vsL n 0).map (fun (c r : Int) => lapM es r c) = ((upTo (n - 1)).map (vAt (vsL n 0))).map fun (c r : Int) => lapM es r c := by rw [e]
  rw [this, List.map_map]
  rfl
 rw [e2] at hd
 exact Int.ofNat_dvd_left.2 hd
theorem lap_mul (es : List E) (c : Int) (s : Int → Int) (w : Int) : lap es (fun v => c * s v) w = c * lap es s w := by
 induction es with
 | nil => rw [lap_nil, lap_nil, Int.mul_zero]
 | cons e es ih =>
  rw [lap_cons, lap_cons, ih, Int.mul_add]
  congr 1
  unfold lapE
  rw [Int.mul_add]
  congr 1 <;> split <;> simp [Int.mul_sub]
theorem nat_order {M D S : Nat} (hM : 0 < M) (h : M ∣ S * D) : M / Nat.gcd M D ∣ S := by
 have hg : 0 < Nat.gcd M D := Nat.gcd_pos_of_pos_left _ hM
 have hc := Nat.coprime_div_gcd_div_gcd hg
 obtain ⟨a, ha⟩ := Nat.gcd_dvd_left M D
 obtain ⟨b, hb⟩ := Nat.gcd_dvd_right M D
 generalize Nat.gcd M D = g at *
 have e1 : M / g = a := by rw [ha]; exact Nat.mul_div_cancel_left _ hg
 have e2 : D / g = b := by rw [hb]; exact Nat.mul_div_cancel_left _ hg
 rw [e1, e2] at hc
 rw [e1]
 refine hc.dvd_of_dvd_mul_right ?_
 rw [ha, hb] at h
 rw [show S * (g * b) = g * (S * b) by rw [Nat.mul_left_comm]] at h
 exact Nat.dvd_of_mul_dvd_mul_left hg h
theorem ord_dvd {n : Nat} {es : List E} (g : Gr n es 0) (h2 : 2 ≤ n) {a : List Int} {m : Int} (h : OrdP n es a m) :
  ∃ D : Int, 1 ≤ D ∧ m ∣ D ∧ invF (n - 1) (redM n es 0) (n - 2) = D ∧ D ∣ dlap es (vsL n 0) := by
 obtain ⟨hm1, ⟨_, _, s0, hs0⟩, hmin⟩ := h
 have n6 := g.n6
 have hlen := vsL_len (n := n) (q := 0) (by omega)
 have hvm : ∀ v : Int, v ∈ vsL n 0 ↔ (0 ≤ v ∧ v < n) ∧ v ≠ 0 := fun v => vsL_mem (q := 0) (by omega)
 have hnd := vsL_nodup n 0
 obtain ⟨s, hs, hsz⟩ : ∃ s : Int → Int, (∀ v : Int, 0 ≤ v → v < n → m * rd a v = lap es s v) ∧ s 0 = 0 := by
  refine ⟨fun v => s0 v - s0 0, fun v v0 v1 => ?_, by show s0 0 - s0 0 = 0; omega⟩
  have h1 := hs0 v v0 v1
  rw [rd_replicate] at h1
  rw [lap_sub, lap_const (s := fun _ => s0 0) (c := s0 0) (fun _ _ => ⟨rfl, rfl⟩)]
  omega
 have hlc : (lcols es (vsL n 0)).length = n - 1 := by rw [lcols_len, hlen]
 have hD1 := dlap_pos g
 have hgd : ∀ p, p < n - 1 → ∀ b : Col, ((gK (n - 1) (redM n es 0) (n - 2) : Nat) : Int) ∣ detC (vsL n 0) ((lcols es (vsL n 0)).set p b) := fun p hp b =>
  dvd_col hnd (by omega) (fun i hi => gK_minor h2 n6 es (by omega) hp) b
 have hgD : ((gK (n - 1) (redM n es 0) (n - 2) : Nat) : Int) ∣ dlap es (vsL n 0) := by
  have h1 := hgd 0 (by omega) ((lcols es (vsL n 0)).getD 0 z0)
  rw [set_self z0 (by omega)] at h1
  exact h1
 have htop : gK (n - 1) (redM n es 0) (n - 1) = (dlap es (vsL n 0)).natAbs := by
  rw [gK_top (by omega), redM_det (by omega)]
 have hcr : ∀ p, p < n - 1 → ∃ t : Int, s ((vsL n 0).getD p 0) * dlap es (vsL n 0) = m * t ∧ ((gK (n - 1) (redM n es 0) (n - 2) : Nat) : Int) ∣ t := by
  intro p hp
  refine ⟨detC (vsL n 0) ((lcols es (vsL n 0)).set p (rd a)), ?_, hgd p hp _⟩
  rw [← cramer (es := es) (vs := vsL n 0) (s := s) (b := fun r => z0 r + m * rd a r) (fun r hr => ?_) (by omega), detC_lin _ _ _ (by omega) (by omega), detC_null (by omega) (by omega), Int.zero_add]
  have hr' := (hvm r).1 hr
  rw [← lap_cols (by omega) g.hes hsz r, ← hs r hr'.1.1 hr'.1.2]
  simp [z0]
 generalize hG : gK (n - 1) (redM n es 0) (n - 2) = G at *
 generalize dlap es (vsL n 0) = D at *
 obtain ⟨D', rfl⟩ := hgD
 have hG0 : 0 < G := by
  rcases Nat.eq_zero_or_pos G with c | c
  ·subst c; simp at hD1
  ·exact c
 have hD' : 1 ≤ D' := by
  rcases (show D' < 1 ∨ 1 ≤ D' by omega) with c | c
  ·have : (G : Int) * D' ≤ 0 := Int.mul_nonpos_of_nonneg_of_nonpos (by omega) (by omega)
   omega
  ·exact c
 obtain ⟨N, rfl⟩ := Int.eq_ofNat_of_zero_le (a := D') (by omega)
 obtain ⟨k, rfl⟩ := Int.eq_ofNat_of_zero_le (a := m) (by omega)
 have hdv : ∀ v : Int, v ∈ vsL n 0 → k ∣ (s v).natAbs * N := by
  intro v hv
  obtain ⟨p, hp, rfl⟩ := List.getElem_of_mem hv
  obtain ⟨t, ht, u, rfl⟩ := hcr p (by omega)
  have e : (vsL n 0).getD p 0 = (vsL n 0)[p] := by rw [List.getD_eq_getElem?_getD, List.getElem?_eq_getElem hp]; rfl
  rw [e] at ht
  have h3 : s (vsL n 0)[p] * (N : Int) = (k : Int) * u := by
   refine Int.eq_of_mul_eq_mul_left (a := (G : Int)) (by omega) ?_
   rw [Int.mul_left_comm, ht, Int.mul_left_comm]
  have h4 := congrArg Int.natAbs h3
  rw [Int.natAbs_mul, Int.natAbs_mul, Int.natAbs_natCast, Int.natAbs_natCast] at h4
  exact ⟨_, h4⟩
 have hk : 0 < k := by omega
 have hgp : 0 < Nat.gcd k N := Nat.gcd_pos_of_pos_left _ hk
 have hgk : Nat.gcd k N ∣ k := Nat.gcd_dvd_left k N
 have hkk : k / Nat.gcd k N * Nat.gcd k N = k := Nat.div_mul_cancel hgk
 have hq : ∀ v : Int, 0 ≤ v → v < n → s v = ((k / Nat.gcd k N : Nat) : Int) * (s v / ((k / Nat.gcd k N : Nat) : Int)) := by
  intro v v0 v1
  rw [Int.mul_ediv_cancel']
  by_cases c : v = 0
  ·rw [c, hsz]; exact Int.dvd_zero _
  ·exact Int.ofNat_dvd_left.2 (nat_order hk (hdv v ((hvm v).2 ⟨⟨v0, v1⟩, c⟩)))
 have hge : k ≤ Nat.gcd k N := by
  apply Classical.byContradiction
  intro hlt
  refine hmin (Nat.gcd k N : Nat) (by omega) (by omega) ⟨by simp, zeros_red g, fun v => s v / ((k / Nat.gcd k N : Nat) : Int), fun v v0 v1 => ?_⟩
  rw [rd_replicate]
  have h5 := hs v v0 v1
  rw [lap_congr g.hes (fun x x0 x1 => hq x x0 x1) v, lap_mul] at h5
  have h6 : 0 < k / Nat.gcd k N := by
   rcases Nat.eq_zero_or_pos (k / Nat.gcd k N) with c | c
   ·rw [c] at hkk; omega
   ·exact c
  have h7 : ((Nat.gcd k N : Nat) : Int) * rd a v = lap es (fun x => s x / ((k / Nat.gcd k N : Nat) : Int)) v := by
   refine Int.eq_of_mul_eq_mul_left (a := ((k / Nat.gcd k N : Nat) : Int)) (by omega) ?_
   rw [← h5, ← Int.mul_assoc, ← Int.natCast_mul, hkk]
  omega
 have hkN : k ∣ N := by
  have : Nat.gcd k N = k := Nat.le_antisymm (Nat.le_of_dvd hk hgk) hge
  rw [← this]
  exact Nat.gcd_dvd_right k N
 refine ⟨(N : Int), hD', Int.ofNat_dvd.2 hkN, ?_, ⟨(G : Int), Int.mul_comm _ _⟩⟩
 unfold invF
 rw [show n - 2 + 1 = n - 1 by omega, htop, hG, Int.natAbs_mul, Int.natAbs_natCast, Int.natAbs_natCast, if_neg (by
  have : 0 < G * N := Nat.mul_pos hG0 (by omega)
  omega), Nat.mul_div_cancel_left _ hG0]
theorem Mul.plus {n : Nat} {es : List E} (g : Gr n es 0) {a : List Int} (ha : a.length = n) (h0 : a.sum = 0) {j k : Int} {x y : List Int} (hx : Mul n es a j x) (hy : Mul n es a k y) : Mul n es a (j + k) (reduceS n es 0 (plusL x y)).1 := by
 have hl : (plusL x y).length = n := by rw [plusL_len]; exact hx.1
 have hb : Bd (plusL x y) 1000 := (plusL_bd (by rw [hx.1, hy.1]) (hx.bd1 g ha h0) (hy.bd1 g ha h0)).mono (by omega)
 refine hx.add hy (c := plusL x y) (fun v v0 v1 => ?_) (reduceS_ok g hl hb)
 unfold plusL
 exact (repL_rep x.length _).2 v v0 (by rw [hx.1]; exact v1)
open Classical in
noncomputable def mulS (n : Nat) (es : List E) (a : List Int) (k : Int) : List Int := if h : ∃ x, Mul n es a k x then Classical.choose h else []
theorem Mul.eq {n : Nat} {es : List E} (g : Gr n es 0) {a : List Int} {k : Int} {x : List Int} (h : Mul n es a k x) : x = mulS n es a k := by
 have he : ∃ x, Mul n es a k x := ⟨x, h⟩
 unfold mulS
 rw [dif_pos he]
 exact h.unique g.n1 g.hes (Classical.choose_spec he)
theorem negL_sum {a : List Int} (h0 : a.sum = 0) : (negL a).sum = 0 := by
 rw [sum_rd a.length (negL a) (negL_len a), sumN_congr (g := fun i : Nat => - rd a (i : Int)) (fun i hi => (repL_rep a.length _).2 i (by omega) (by omega))]
 rw [sum_rd a.length a rfl] at h0
 have h3 : sumN a.length (fun i => - rd a (i : Int)) + sumN a.length (fun i => rd a (i : Int)) = 0 := by
  rw [← sumN_add]
  have := sumN_zero a.length
  rw [← this]
  apply sumN_congr
  intro i _
  omega
 omega
def signL (a : List Int) (k : Int) : List Int := if k < 0 then negL a else a
theorem signL_ok {n : Nat} {a : List Int} (ha : a.length = n) (hb : Bd a 60) (h0 : a.sum = 0) (k : Int) : (signL a k).length = n ∧ Bd (signL a k) 60 ∧ (signL a k).sum = 0 := by
 unfold signL
 split
 ·exact ⟨by rw [negL_len]; exact ha, negL_bd hb, negL_sum h0⟩
 ·exact ⟨ha, hb, h0⟩
theorem implTimes_l0 {n : Nat} {es : List E} (g : Gr n es 0) {b : List Int} (hb : b.length = n) (h0 : b.sum = 0) (N : Nat) : ∀ (D m : Nat) (e w : Nat) (x y : List Int), m ≤ D → m ≤ 1000 → Mul n es b e x → Mul n es b w y → e + w * m = N → Ep (fun f => impl_TimesClass.l0 f (m : Int) x y (n : Int) es) (· = (mulS n es b N, true)) := by
 have hn := g.n6
 intro D
 induction D with
 | zero =>
  intro m e w x y hm _ hx _ he
  obtain rfl : m = 0 := by omega
  refine Ep.up ?_
  simp only [impl_TimesClass.l0]
  refine Ep.neg (by omega) (Ep.now ?_)
  rw [Nat.mul_zero, Nat.add_zero] at he
  subst he
  rw [hx.eq g]
 | succ D ih =>
  intro m e w x y hm hm2 hx hy he
  have hxl := hx.1
  have hyl := hy.1
  have bx := hx.bd1 g hb h0
  have bY := hy.bd1 g hb h0
  refine Ep.up ?_
  simp only [impl_TimesClass.l0]
  refine Ep.ite (fun hp => ?_) (fun hp => Ep.now ?_)
  ·rw [show Int.tmod (m : Int) 2 = ((m % 2 : Nat) : Int) from rfl, show Int.tdiv (m : Int) 2 = ((m / 2 : Nat) : Int) from rfl, wrap_id (x := ((m / 2 : Nat) : Int)) (by omega) (by omega)]
   have hyy := hy.plus g hb h0 hy
   have e2 : (w : Int) + (w : Int) = ((2 * w : Nat) : Int) := by omega
   rw [e2] at hyy
   have hw2 : 2 * w * (m / 2) = w * (2 * (m / 2)) := by rw [Nat.mul_comm 2 w, Nat.mul_assoc]
   refine Ep.ite (fun h1 => ?_) (fun h1 => ?_)
   ·have hxy := hx.plus g hb h0 hy
    have e3 : (e : Int) + (w : Int) = ((e + w : Nat) : Int) := by omega
    rw [e3] at hxy
    refine Ep.bind (implPlus x y (by omega) (by omega) (bx.mono (by omega)) (bY.mono (by omega))) ?_
    rintro _ rfl
    refine Ep.bind (implReduce g (d := plusL x y) (by rw [plusL_len]; omega) ((plusL_bd (by omega) bx bY).mono (by omega))) ?_
    rintro _ rfl
    refine Ep.bind (implPlus y y (by omega) (by omega) (bY.mono (by omega)) (bY.mono (by omega))) ?_
    rintro _ rfl
    refine Ep.bind (implReduce g (d := plusL y y) (by rw [plusL_len]; omega) ((plusL_bd (by omega) bY bY).mono (by omega))) ?_
    rintro _ rfl
    refine ih (m / 2) (e + w) (2 * w) _ _ (by omega) (by omega) hxy hyy ?_
    have h5 : m = 2 * (m / 2) + 1 := by omega
    rw [hw2]
    rw [h5, Nat.mul_add, Nat.mul_one] at he
    omega
   ·refine Ep.bind (implPlus y y (by omega) (by omega) (bY.mono (by omega)) (bY.mono (by omega))) ?_
    rintro _ rfl
    refine Ep.bind (implReduce g (d := plusL y y) (by rw [plusL_len]; omega) ((plusL_bd (by omega) bY bY).mono (by omega))) ?_
    rintro _ rfl
    refine ih (m / 2) e (2 * w) _ _ (by omega) (by omega) hx hyy ?_
    have h5 : 2 * (m / 2) = m := by omega
    rw [hw2, h5]
    exact he
  ·obtain rfl : m = 0 := by omega
   rw [Nat.mul_zero, Nat.add_zero] at he
   subst he
   rw [hx.eq g]
noncomputable def timO (n : Int) (es : List E) (a : List Int) (k : Int) : List Int × Bool := if (zOk n es a && decide (-1000 ≤ k ∧ k ≤ 1000)) = true then (mulS n.toNat es (signL a k) (k.natAbs : Nat), true) else ([], false)
theorem implTim (n : Int) (es : List E) (a : List Int) (k : Int) (hl : a.length ≤ 1048576) : Ep (fun f => impl_TimesClass.f f n es a k) (· = timO n es a k) := by
 simp only [impl_TimesClass.f, timO]
 refine Ep.bind (implZero n es a hl) ?_
 rintro _ rfl
 refine Ep.ite (fun h => ?_) (fun h => Ep.now ?_)
 ·obtain ⟨m, rfl, g, hla, hba, h0⟩ := zOk_all h
  rw [h]
  refine Ep.bind0 (within_eq _ _ _) ?_
  simp only [Bool.true_and]
  refine Ep.ite (fun h2 => ?_) (fun h2 => Ep.now (by rw [if_neg h2]))
  rw [if_pos h2]
  have h3 : -1000 ≤ k ∧ k ≤ 1000 := by simpa using h2
  have hn := g.n6
  obtain ⟨sl, sb, s0⟩ := signL_ok hla hba h0 k
  have hsr := Mul.one (reduceS_ok g sl (sb.mono (by omega)))
  refine Ep.ite (fun h4 => ?_) (fun h4 => ?_)
  ·refine Ep.bind (implNeg a hl (hba.mono (by omega))) ?_
   rintro _ rfl
   refine Ep.pos (by omega) (Ep.pos (by omega) ?_)
   refine Ep.bind (implReduce g (d := negL a) (by rw [negL_len]; exact hla) ((negL_bd hba).mono (by omega))) ?_
   rintro _ rfl
   have e : signL a k = negL a := by unfold signL; rw [if_pos h4]
   rw [e] at hsr sl s0 ⊢
   have ek : wrap64 (-k) = ((k.natAbs : Nat) : Int) := by rw [wrap_id (by omega) (by omega)]; omega
   rw [ek]
   exact implTimes_l0 g sl s0 k.natAbs k.natAbs k.natAbs 0 1 _ _ (Nat.le_refl _) (by omega) (Mul.zero (zeros_red g)) hsr (by omega)
  ·refine Ep.pos (by omega) (Ep.pos (by omega) ?_)
   refine Ep.bind (implReduce g hla (hba.mono (by omega))) ?_
   rintro _ rfl
   have e : signL a k = a := by unfold signL; rw [if_neg h4]
   rw [e] at hsr sl s0 ⊢
   obtain ⟨N, rfl⟩ := Int.eq_ofNat_of_zero_le (a := k) (by omega)
   exact implTimes_l0 g sl s0 N N N 0 1 _ _ (Nat.le_refl _) (by omega) (Mul.zero (zeros_red g)) hsr (by omega)
 ·have : zOk n es a = false := by simpa using h
  rw [this]
  rfl
end Go.Proofs.Ytkcbinohpdhbgaa.Cf
end

section
namespace Go.Proofs.Ytkcbinohpdhbgaa.Cf
set_option linter.unusedVariables false
set_option linter.unusedSimpArgs false
open Go.RowKit Go.Proofs.YtkcbinohpdhbgaaW.PrintWords Go.Proofs.Ytkcbinohpdhbgaa.P
noncomputable def invCO (n : Int) (es : List E) (a : List Int) : List Int × Bool := if zOk n es a = true then ((reduceS n.toNat es 0 (negL a)).1, true) else ([], false)
theorem dOk_neg {n : Int} {es : List E} {a : List Int} (h : dOk n es a = true) : dOk n es (negL a) = true := by
 obtain ⟨h1, h2, h3⟩ := dOk_iff.1 h
 refine dOk_iff.2 ⟨h1, by rw [negL_len]; exact h2, fun x hx => ?_⟩
 obtain ⟨w, w0, w1, rfl⟩ := (repL_rep a.length fun w => - rd a w).mem hx
 have := Bd.of60 h3 w w0 w1
 omega
theorem implInvC (n : Int) (es : List E) (a : List Int) (hn : Wf .i64 n) (hl : a.length ≤ 1048576) : Ep (fun k => impl_InverseClass.f k n es a) (· = invCO n es a) := by
 simp only [impl_InverseClass.f, invCO, impl_RepresentativeOf.f]
 refine Ep.bind (implZero n es a hl) ?_
 rintro _ rfl
 refine Ep.ite (fun h => ?_) (fun h => Ep.now (by rw [if_neg h]))
 obtain ⟨m, rfl, g, hla, hba, _⟩ := zOk_all h
 refine Ep.bind (implNeg a hl (hba.mono (by omega))) ?_
 rintro _ rfl
 have hd : dOk (m : Int) es a = true := by
  unfold zOk at h
  rw [Bool.and_eq_true] at h
  exact h.1
 have e : redO (m : Int) es (negL a) 0 = ((reduceS m es 0 (negL a)).1, true) := by
  unfold redO
  have hq := g.hq
  have : (0 : Int) ≤ 0 ∧ (0 : Int) < m := by omega
  rw [dOk_neg hd, if_pos (by simpa using this.2)]
  rfl
 refine Ep.bind (P := (· = redO (m : Int) es (negL a) 0)) (Ep.bind (implRedO m es (negL a) 0 hn (by rw [negL_len]; omega)) ?_) ?_
 ·rintro _ rfl
  exact Ep.now rfl
 ·rintro _ rfl
  exact Ep.now (by rw [if_pos h, e]; rfl)
theorem same_l0 (a b : List Int) (hl : a.length = b.length) (hb : a.length ≤ 1048576) : ∀ (d i : Nat), i + d = a.length → Ep (fun k => laws_same.l0 k b a (a.length : Int) (i : Int)) (· = decide (a.drop i = b.drop i)) := by
 intro d
 induction d with
 | zero =>
  intro i hi
  refine Ep.up ?_
  simp only [laws_same.l0]
  refine Ep.neg (by omega) (Ep.now ?_)
  rw [List.drop_of_length_le (by omega), List.drop_of_length_le (by omega)]
  rfl
 | succ d ih =>
  intro i hi
  have h1 : i < a.length := by omega
  have h2 : i < b.length := by omega
  refine Ep.up ?_
  simp only [laws_same.l0]
  refine Ep.pos (by omega) (Ep.pos (by omega) (Ep.pos (by omega) (Ep.pos (by omega) ?_)))
  rw [rd_get h1, rd_get h2, wrap_succ (by omega), List.drop_eq_getElem_cons h1, List.drop_eq_getElem_cons h2]
  refine Ep.ite (fun h => (ih (i + 1) (by omega)).mono ?_) (fun h => Ep.now ?_)
  ·rintro _ rfl
   rw [h]
   simp only [List.cons.injEq, true_and]
  ·rw [eq_comm, decide_eq_false_iff_not]
   intro e
   exact h (List.cons.inj e).1
theorem same_ok (a b : List Int) (hb : a.length ≤ 1048576) : Ep (fun k => laws_same.f k a b) (· = decide (a = b)) := by
 simp only [laws_same.f]
 refine Ep.ite (fun h => ?_) (fun h => Ep.now ?_)
 ·simpa using same_l0 a b (by omega) hb a.length 0 (by omega)
 ·rw [eq_comm, decide_eq_false_iff_not]
  intro e
  exact h (by rw [e])
theorem same_yes {a b : List Int} (h : a = b) (hb : a.length ≤ 1048576) : Ep (fun k => laws_same.f k a b) (· = true) := (same_ok a b hb).mono (by rintro _ rfl; simpa using h)
theorem Mul.wind {n : Nat} {es : List E} {a : List Int} {m r : Int} {x : List Int} (hm : Mul n es a m (List.replicate n 0)) (h : Mul n es a r x) (q : Int) : Mul n es a (m * q + r) x := by
 obtain ⟨_, _, u, hu⟩ := hm
 obtain ⟨xl, xr, s, hs⟩ := h
 refine ⟨xl, xr, fun v => s v + q * u v, fun v v0 v1 => ?_⟩
 have h1 := hu v v0 v1
 rw [rd_replicate] at h1
 have h2 : m * rd a v = lap es u v := by omega
 rw [lap_add, lap_mul, hs v v0 v1, Int.add_mul, Int.mul_right_comm, h2, Int.mul_comm (lap es u v) q]
 omega
theorem Mul.turn {n : Nat} {es : List E} {a : List Int} {k : Int} {x : List Int} (h : Mul n es a k x) {r : List Int × List Int} (hr : Reduced n es 0 (negL x) r) : Mul n es a (-k) r.1 := by
 obtain ⟨xl, _, s, hs⟩ := h
 have h1 := Mul.one hr
 obtain ⟨yl, yr, u, hu⟩ := h1
 refine ⟨yl, yr, fun v => u v - s v, fun v v0 v1 => ?_⟩
 have e : rd (negL x) v = - rd x v := by
  unfold negL
  exact (repL_rep x.length fun w => - rd x w).2 v v0 (by omega)
 rw [hu v v0 v1, e, hs v v0 v1, lap_sub, Int.neg_mul]
 omega
theorem Mul.all {n : Nat} {es : List E} (g : Gr n es 0) {a : List Int} (ha : a.length = n) (hb : Bd a 1000) (h0 : a.sum = 0) : ∀ k : Nat, ∃ x, Mul n es a (k : Int) x
 | 0 => ⟨_, Mul.zero (zeros_red g)⟩
 | k + 1 => by
  obtain ⟨x, hx⟩ := Mul.all g ha hb h0 k
  exact ⟨_, hx.next g ha h0 (Mul.one (reduceS_ok g ha hb))⟩
theorem timO_mul {n : Nat} {es : List E} (g : Gr n es 0) {a : List Int} (hz : zOk (n : Int) es a = true) {k : Int} (hk : -1000 ≤ k ∧ k ≤ 1000) : ∃ x, timO (n : Int) es a k = (x, true) ∧ Mul n es a k x := by
 obtain ⟨m, e, _, hla, hba, h0⟩ := zOk_all hz
 have e' : m = n := by omega
 subst e'
 obtain ⟨sl, sb, s0⟩ := signL_ok hla hba h0 k
 obtain ⟨x, hx⟩ := Mul.all g sl (sb.mono (by omega)) s0 k.natAbs
 refine ⟨x, ?_, ?_⟩
 ·unfold timO
  rw [if_pos (by rw [hz]; simpa using hk), Int.toNat_natCast, ← hx.eq g]
 ·unfold signL at hx
  by_cases c : k < 0
  ·rw [if_pos c] at hx
   have h1 := hx.neg (a := a) (fun v v0 v1 => by
    unfold negL
    exact (repL_rep a.length fun w => - rd a w).2 v v0 (by omega))
   rwa [show -((k.natAbs : Nat) : Int) = k by omega] at h1
  ·rw [if_neg c] at hx
   rwa [show ((k.natAbs : Nat) : Int) = k by omega] at hx
theorem Mul.zOk {n : Nat} (h5 : n ≤ 5) {es : List E} (g : Gr n es 0) (hg : GOk (n : Int) es) {a : List Int} (ha : a.length = n) (h0 : a.sum = 0) {k : Int} {x : List Int} (h : Mul n es a k x) : Cf.zOk (n : Int) es x = true := by
 have hb := h.bd ⟨g.n1, g.n6⟩ g.hes g.hel ha h0
 have hl := h.1
 have hp := h.2.1.1
 have n1 := g.n1
 unfold Cf.zOk
 rw [Bool.and_eq_true]
 refine ⟨dOk_iff.2 ⟨hg, by omega, ?_⟩, by rw [beq_iff_eq]; exact hb.1⟩
 obtain ⟨y, l, rfl⟩ : ∃ y l, x = y :: l := by
  cases x with
  | nil => simp at hl; omega
  | cons y l => exact ⟨y, l, rfl⟩
 have hle : ∀ z ∈ l, 0 ≤ z ∧ z ≤ 11 := fun z hz => by
  obtain ⟨i, hi, rfl⟩ := List.getElem_of_mem hz
  have e : rd (y :: l) ((i + 1 : Nat) : Int) = l[i] := by
   unfold rd
   rw [Int.toNat_natCast, List.getD_eq_getElem?_getD, List.getElem?_cons_succ, List.getElem?_eq_getElem hi]
   rfl
  rw [List.length_cons] at hl
  have h1 := hp ((i + 1 : Nat) : Int) (by omega) (by omega) (by omega)
  have h2 := hb.2 ((i + 1 : Nat) : Int) (by omega) (by omega)
  rw [e] at h1 h2
  omega
 have h1 := sum_le l fun z hz => (hle z hz).2
 have h2 := sum_ge l fun z hz => (hle z hz).1
 have h3 := hb.1
 rw [List.sum_cons] at h3
 rw [List.length_cons] at hl
 intro z hz
 rcases List.mem_cons.1 hz with rfl | hz
 ·omega
 ·have := hle z hz
  omega
theorem ord_some {n : Nat} {es : List E} (g : Gr n es 0) {a : List Int} (ha : a.length = n) (hb : Bd a 1000) (h0 : a.sum = 0) : ∃ m, OrdP n es a m := by
 have hm := Mul.one (reduceS_ok g ha hb)
 obtain ⟨r, hr, _⟩ := implOrd_l0 g ha h0 hm 1000000000001 [] _ (by simp) (fun i hi => by simp at hi) hm
 exact ⟨r, hr⟩
theorem factL_last {L : List Int} {k : Nat} (hk : L.length = k + 1) {D : Int} (hD : L.getD k 0 = D) (h1 : 1 ≤ D) {m : Int} (hm1 : 1 ≤ m) (hm : m ∣ D) :
  (factL L = [] → m = 1) ∧ (factL L ≠ [] → m ∣ rd (factL L) ((factL L).length - 1 : Nat)) := by
 have hs : L = L.take k ++ [D] := by
  have h := List.take_append_drop k L
  rw [List.drop_eq_getElem_cons (by omega), List.drop_of_length_le (by omega)] at h
  rw [List.getD_eq_getElem?_getD, List.getElem?_eq_getElem (by omega)] at hD
  have hD' : L[k] = D := hD
  rw [hD'] at h
  exact h.symm
 have hf : factL L = factL (L.take k) ++ (if D > 1 then [D] else []) := by
  conv => lhs; rw [hs]
  unfold factL
  rw [List.filter_append]
  congr 1
  by_cases c : D > 1
  ·rw [if_pos c, List.filter_cons_of_pos (by simpa using c)]; rfl
  ·rw [if_neg c, List.filter_cons_of_neg (by simpa using c)]; rfl
 by_cases c : D > 1
 ·rw [if_pos c] at hf
  refine ⟨fun h => ?_, fun _ => ?_⟩
  ·rw [hf] at h
   simp at h
  ·rw [hf]
   unfold rd
   simp
   exact hm
 ·have e : D = 1 := by omega
  have e1 : m = 1 := by
   rw [e] at hm
   have := Int.le_of_dvd (by omega) hm
   omega
  exact ⟨fun _ => e1, fun _ => by rw [e1]; exact Int.one_dvd _⟩
theorem law_FnOrders (b : List Int) (_ : SL (Wf .u8) b) : Ep (fun k => laws_FnOrders.f k b) (· = true) := by
 simp only [laws_FnOrders.f]
 refine Ep.ite (fun _ => Ep.now rfl) (fun hbl => ?_)
 have hb : b.length ≤ 1048576 := by omega
 refine Ep.bind (makeGraph b hb) ?_
 rintro ⟨n', es⟩ ⟨n, hn', h2, h5, hg⟩
 dsimp only at hn' hg ⊢
 subst hn'
 have g : Gr n es 0 := Gr.of hg ⟨by omega, by omega⟩
 refine Ep.bind (makeZero b hb 20 (by omega) h2 h5 hg) ?_
 rintro a ⟨hz, hal⟩
 obtain ⟨n'', e, _, _, hba, h0⟩ := zOk_all hz
 obtain ⟨m, hm⟩ := ord_some g hal (hba.mono (by omega)) h0
 have hmo : ordO (n : Int) es a = m := by
  unfold ordO
  rw [if_pos hz, Int.toNat_natCast, hm.eq]
 obtain ⟨D, hD1, hmD, hinv, hDd⟩ := ord_dvd g h2 hm
 have hpos := dlap_pos g
 have hmd : m ∣ dlap es (vsL n 0) := Int.dvd_trans hmD hDd
 have hmle := Int.le_of_dvd (by omega) hmd
 have hm1 := hm.1
 refine Ep.bind (implOrd (n : Int) es a (by omega)) ?_
 rintro _ rfl
 rw [hmo]
 refine Ep.neg (by omega) (Ep.bind (implGroupOrder hg) ?_)
 rintro _ rfl
 refine Ep.neg (by omega) (Ep.bind (implGroupOrder hg) ?_)
 rintro _ rfl
 refine Ep.neg (by omega) (Ep.up ?_)
 have hmod : (Int.tmod (dlap es (vsL n 0)) m != 0) = false := by
  rw [bne_eq_false_iff_eq]
  exact Int.tmod_eq_zero_of_dvd hmd
 simp only [laws_FnOrders.j0]
 rw [hmod]
 refine Ep.neg (by simp) (Ep.bind (makeNum b hb 60 (by omega)) ?_)
 rintro z ⟨z0, z1⟩
 have ht0 : 0 ≤ Int.tmod z 20 := Int.tmod_nonneg _ z0
 have ht1 : Int.tmod z 20 < 20 := Int.tmod_lt_of_pos _ (by omega)
 generalize Int.tmod z 20 = t at ht0 ht1 ⊢
 have hr0 : 0 ≤ Int.tmod t m := Int.tmod_nonneg _ ht0
 have hrm : m * (Int.tdiv t m) + Int.tmod t m = t := Int.mul_tdiv_add_tmod t m
 have hr1 : Int.tmod t m ≤ t := by
  have h1 : 0 ≤ m * Int.tdiv t m := Int.mul_nonneg (by omega) (Int.tdiv_nonneg ht0 (by omega))
  omega
 obtain ⟨x, ex, hx⟩ := timO_mul g hz (k := t) (by omega)
 obtain ⟨y, ey, hy⟩ := timO_mul g hz (k := Int.tmod t m) (by omega)
 obtain ⟨w, ew, hw⟩ := timO_mul g hz (k := -t) (by omega)
 have hxy : x = y := by
  have h := hm.2.1.wind hy (Int.tdiv t m)
  rw [hrm] at h
  exact hx.unique (by omega) g.hes h
 have hzx := hx.zOk h5 g hg hal h0
 have hxl := hx.1
 refine Ep.bind (implTim (n : Int) es a t (by omega)) ?_
 rintro _ rfl
 rw [ex]
 refine Ep.neg (by omega) (Ep.bind (implTim (n : Int) es a (Int.tmod t m) (by omega)) ?_)
 rintro _ rfl
 rw [ey, wrap_id (x := -t) (by omega) (by omega)]
 refine Ep.bind (implTim (n : Int) es a (-t) (by omega)) ?_
 rintro _ rfl
 rw [ew]
 have hwf : Wf .i64 (n : Int) := by simp [Wf, Lit.wf, IntKind.min, IntKind.max, IntKind.signed, IntKind.bits]; omega
 refine Ep.bind (implInvC (n : Int) es x hwf (by omega)) ?_
 rintro _ rfl
 obtain ⟨_, _, _, _, hbx, _⟩ := zOk_all hzx
 have einv : invCO (n : Int) es x = ((reduceS n es 0 (negL x)).1, true) := by
  unfold invCO
  rw [if_pos hzx, Int.toNat_natCast]
 have hwx : w = (reduceS n es 0 (negL x)).1 := hw.unique (by omega) g.hes (hx.turn (reduceS_ok g (by rw [negL_len]; exact hxl) ((negL_bd hbx).mono (by omega))))
 rw [einv]
 refine Ep.bind (implGroupFactors hg) ?_
 rintro _ rfl
 refine Ep.bind (implDiff g hg (u := 1) (v := 0) ⟨by omega, by omega⟩ ⟨by omega, by omega⟩) ?_
 rintro ⟨d, fl⟩ ⟨hfl, hdl, hds, hdm⟩
 dsimp only at hfl hdl hds hdm ⊢
 subst hfl
 refine Ep.pos rfl (Ep.pos rfl (Ep.pos rfl (Ep.pos rfl (Ep.pos rfl (Ep.bind (same_yes hxy (by omega)) ?_)))))
 rintro _ rfl
 refine Ep.pos rfl (Ep.bind (same_yes hwx (by have := hw.1; omega)) ?_)
 rintro _ rfl
 refine Ep.pos rfl ?_
 simp only [impl_DegreeOf.f]
 refine Ep.bind (Ep.bind (implSum d (by omega) hdm) fun _ h => Ep.now h) ?_
 rintro _ rfl
 refine Ep.pos hds ?_
 have hll : (invL (n - 1) (redM n es 0)).length = (n - 2) + 1 := by simp [invL]; omega
 have hlD : (invL (n - 1) (redM n es 0)).getD (n - 2) 0 = D := by
  rw [← hinv]
  unfold invL
  simp [List.getD, show n - 2 < n - 1 by omega]
 obtain ⟨hl1, hl2⟩ := factL_last hll hlD hD1 hm1 hmD
 have hfl5 : (factL (invL (n - 1) (redM n es 0))).length ≤ 5 := Nat.le_trans (List.length_filter_le _ _) (by rw [hll]; omega)
 generalize factL (invL (n - 1) (redM n es 0)) = F at hl1 hl2 hfl5 ⊢
 by_cases c : F = []
 ·subst c
  exact Ep.pos rfl (Ep.pos (hl1 rfl) (Ep.now rfl))
 ·have hp : 0 < F.length := by cases F with | nil => exact absurd rfl c | cons _ _ => simp
  have e1 : wrap64 ((F.length : Int) - 1) = ((F.length - 1 : Nat) : Int) := by
   rw [wrap_id (by omega) (by omega)]
   omega
  rw [e1]
  refine Ep.neg (by omega) (Ep.pos (by omega) (Ep.pos (by omega) (Ep.pos (by omega) (Ep.now ?_))))
  rw [beq_iff_eq]
  exact Int.tmod_eq_zero_of_dvd (hl2 c)
end Go.Proofs.Ytkcbinohpdhbgaa.Cf
end

section
namespace Go.Proofs.Ytkcbinohpdhbgaa.Cf
set_option linter.unusedVariables false
set_option linter.unusedSimpArgs false
open Go.RowKit Go.ChangeShapes Go.WideShapes Go.Deep Go.Joins Go.Proofs.YtkcbinohpdhbgaaW.PrintWords
section
variable {H : Type} {enc : TypeId × Value → H} {P : Program} {w : World} {base : Nat} {spare : Nat → Bool} {held : Bool}
theorem trod_C {α : Type} {d : Kd α} {Q : α → Prop} (hd : Inhabited α) {t e : TypeId} {fuel : Nat} {cs : List Value} {x : DataW H × List MemPlace} (ht : P.underlying t = some (.slice e)) (hsz : P.cellsOf e = d.sz)
  (hel : ∀ (n : Nat) (cs : List Value) (y : DataW H × List MemPlace), DataW.trod enc P w base spare held n e cs = some y → ∃ a : α, d.K w a cs ∧ Q a)
  (h : DataW.trod enc P w base spare held fuel t cs = some x) : ∃ A len cap xs, cs = [.slice A len cap] ∧ xs.length = len ∧ len ≤ cap ∧ Kd.C d w A len xs ∧ SL Q xs := by
 rcases open_slice ht h with ⟨rfl, _⟩ | ⟨a, len, cap, m, n, D, Pl, rfl, _, hl, hm, hmm, _, hx⟩
 ·exact ⟨none, 0, 0, [], rfl, rfl, Nat.le_refl _, ⟨rfl, by omega, fun hn => by omega⟩, by simp, fun x hx => by cases hx⟩
 ·have hlm : len ≤ m := by rw [hmm]; split <;> omega
  obtain ⟨X, hX⟩ := choose_lt (α := α) (n := len) (p := fun i z => Q z ∧ ∃ c, c.length = d.sz ∧ d.K w z c ∧ ∀ j u, c[j]? = some u → w.cell? (a.add (i * d.sz + j)) = some u) (fun i hi => by
   obtain ⟨cs', h1, h2⟩ := hx i (by omega)
   obtain ⟨z, hz, hq⟩ := hel n cs' _ h2
   obtain ⟨_, hlen, hc⟩ := World.cells?_some h1
   refine ⟨z, hq, cs', by rw [hlen, hsz], hz, fun j u hj => ?_⟩
   have hjl : j < cs'.length := by
    apply Classical.byContradiction
    intro hc
    rw [List.getElem?_eq_none (by omega)] at hj
    cases hj
   have := hc j (by omega)
   rw [Deep.add_add, hsz] at this
   rw [this, hj])
  refine ⟨some a, len, cap, (List.range len).map X, rfl, by simp, hl, ⟨by simp, ?_, fun _ => ⟨a, rfl, fun j p hj => ?_⟩⟩, by simp; unfold maxLen at hm; omega, fun x hx => ?_⟩
  ·unfold maxLen at hm
   omega
  ·have hjl : j < len := by
    apply Classical.byContradiction
    intro hc
    rw [List.getElem?_eq_none (by simp; omega)] at hj
    cases hj
   have : p = X j := by
    rw [List.getElem?_eq_getElem (by simpa using hjl)] at hj
    simpa using hj.symm
   subst this
   exact (hX j hjl).2
  ·obtain ⟨i, hi, rfl⟩ := List.mem_map.1 hx
   exact (hX i (List.mem_range.1 hi)).1
theorem el_int {k : IntKind} {e : TypeId} (he : P.underlying e = some (.int k)) : ∀ (n : Nat) (cs : List Value) (y : DataW H × List MemPlace), DataW.trod enc P w base spare held n e cs = some y → ∃ a : Int, (Kd.int k).K w a cs ∧ Wf k a := by
 intro n cs y h
 obtain ⟨a, rfl, _, hw⟩ := DataW.trod_int he h
 exact ⟨a, rfl, hw⟩
theorem arg_slice {α : Type} {d : Kd α} {Q : α → Prop} (hd : Inhabited α) {t e : TypeId} {a : Option Addr} {len cap : Nat} {x : DataW H} {ps : List MemPlace} (ht : P.underlying t = some (.slice e)) (hsz : P.cellsOf e = d.sz)
  (hel : ∀ (n : Nat) (cs : List Value) (y : DataW H × List MemPlace), DataW.trod enc P w base spare held n e cs = some y → ∃ a : α, d.K w a cs ∧ Q a)
  (h : DataW.Trod enc P w base spare held t (.slice a len cap) x ps) : ∃ xs : List α, xs.length = len ∧ len ≤ cap ∧ Kd.C d w a len xs ∧ SL Q xs := by
 obtain ⟨fuel, hf⟩ := h
 obtain ⟨A, l, c, xs, hcs, hl, hc, hC, hq⟩ := trod_C hd ht hsz hel hf
 simp [Value.cells] at hcs
 obtain ⟨rfl, rfl, rfl⟩ := hcs
 exact ⟨xs, hl, hc, hC, hq⟩
end
end Go.Proofs.Ytkcbinohpdhbgaa.Cf
end

section
namespace Go.Proofs.Ytkcbinohpdhbgaa.Cf
theorem and2 {a b : Bool} (h : a = true) (k : b = true) : (a && b) = true := by rw [h, k]; rfl
theorem iniS : Try.prog.initOrder.toList = ['h', 'a', 'r', 'n', 'e', 's', 's', ' ', '5', '8', 'd', '1', '6', '8', '6', 'c', 'f', '1', '5', 'a', '4', '6', 'd', 'e', '2', 'd', 'b', '2', '2', '4', '6', '5', 'e', 'f', '8', '2', '4', '6', '0', 'd', 'f', 'a', '6', 'b', '7', '2', 'f', 'f', '4', '0', '5', '9', 'd', 'a', '5', '4', '8', '6', '4', 'd', 'e', '8', 'a', '7', '2', '6', 'b', 'b', 'e', 'c', '5', 'd', ' ', 'c', 'u', 't', ' ', 'a', 't', ' ', 'l', 'o', 'o', 'p', '.', 'e', 'x', 'a', 'm', 'p', 'l', 'e', '/', 'g', '0', '0', '8', '4', '1', '/', 'l', 'a', 'w', 's', '.', 'F', 'n', 'E', 'x', 'a', 'c', 't', 'G', 'r', 'o', 'u', 'p', 'F', 'a', 'c', 't', 'o', 'r', 's', ' ', 'l', 'o', 'o', 'p', '.', 'e', 'x', 'a', 'm', 'p', 'l', 'e', '/', 'g', '0', '0', '8', '4', '1', '/', 'l', 'a', 'w', 's', '.', 'F', 'n', 'E', 'x', 'a', 'c', 't', 'I', 's', 'C', 'y', 'c', 'l', 'i', 'c', ' ', 'l', 'o', 'o', 'p', '.', 'e', 'x', 'a', 'm', 'p', 'l', 'e', '/', 'g', '0', '0', '8', '4', '1', '/', 'l', 'a', 'w', 's', '.', 'F', 'n', 'O', 'r', 'd', 'e', 'r', 's', ' ', 'l', 'o', 'o', 'p', '.', 'e', 'x', 'a', 'm', 'p', 'l', 'e', '/', 'g', '0', '0', '8', '4', '1', '/', 'l', 'a', 'w', 's', '.', 'F', 'n', 'E', 'x', 'a', 'c', 't', 'R', 'o', 'w', 'O', 'f', 'O', 'n', 'e'] := by
 have h : Try.prog.initOrder = String.ofList ['h', 'a', 'r', 'n', 'e', 's', 's', ' ', '5', '8', 'd', '1', '6', '8', '6', 'c', 'f', '1', '5', 'a', '4', '6', 'd', 'e', '2', 'd', 'b', '2', '2', '4', '6', '5', 'e', 'f', '8', '2', '4', '6', '0', 'd', 'f', 'a', '6', 'b', '7', '2', 'f', 'f', '4', '0', '5', '9', 'd', 'a', '5', '4', '8', '6', '4', 'd', 'e', '8', 'a', '7', '2', '6', 'b', 'b', 'e', 'c', '5', 'd', ' ', 'c', 'u', 't', ' ', 'a', 't', ' ', 'l', 'o', 'o', 'p', '.', 'e', 'x', 'a', 'm', 'p', 'l', 'e', '/', 'g', '0', '0', '8', '4', '1', '/', 'l', 'a', 'w', 's', '.', 'F', 'n', 'E', 'x', 'a', 'c', 't', 'G', 'r', 'o', 'u', 'p', 'F', 'a', 'c', 't', 'o', 'r', 's', ' ', 'l', 'o', 'o', 'p', '.', 'e', 'x', 'a', 'm', 'p', 'l', 'e', '/', 'g', '0', '0', '8', '4', '1', '/', 'l', 'a', 'w', 's', '.', 'F', 'n', 'E', 'x', 'a', 'c', 't', 'I', 's', 'C', 'y', 'c', 'l', 'i', 'c', ' ', 'l', 'o', 'o', 'p', '.', 'e', 'x', 'a', 'm', 'p', 'l', 'e', '/', 'g', '0', '0', '8', '4', '1', '/', 'l', 'a', 'w', 's', '.', 'F', 'n', 'O', 'r', 'd', 'e', 'r', 's', ' ', 'l', 'o', 'o', 'p', '.', 'e', 'x', 'a', 'm', 'p', 'l', 'e', '/', 'g', '0', '0', '8', '4', '1', '/', 'l', 'a', 'w', 's', '.', 'F', 'n', 'E', 'x', 'a', 'c', 't', 'R', 'o', 'w', 'O', 'f', 'O', 'n', 'e'] := by kernel_rfl
 exact (congrArg String.toList h).trans String.toList_ofList
theorem iniW : behindMainWord (wordsSigns Try.prog.initOrder.toList) = [['c', 'u', 't'], ['a', 't'], ['l', 'o', 'o', 'p', '.', 'e', 'x', 'a', 'm', 'p', 'l', 'e', '/', 'g', '0', '0', '8', '4', '1', '/', 'l', 'a', 'w', 's', '.', 'F', 'n', 'E', 'x', 'a', 'c', 't', 'G', 'r', 'o', 'u', 'p', 'F', 'a', 'c', 't', 'o', 'r', 's'], ['l', 'o', 'o', 'p', '.', 'e', 'x', 'a', 'm', 'p', 'l', 'e', '/', 'g', '0', '0', '8', '4', '1', '/', 'l', 'a', 'w', 's', '.', 'F', 'n', 'E', 'x', 'a', 'c', 't', 'I', 's', 'C', 'y', 'c', 'l', 'i', 'c'], ['l', 'o', 'o', 'p', '.', 'e', 'x', 'a', 'm', 'p', 'l', 'e', '/', 'g', '0', '0', '8', '4', '1', '/', 'l', 'a', 'w', 's', '.', 'F', 'n', 'O', 'r', 'd', 'e', 'r', 's'], ['l', 'o', 'o', 'p', '.', 'e', 'x', 'a', 'm', 'p', 'l', 'e', '/', 'g', '0', '0', '8', '4', '1', '/', 'l', 'a', 'w', 's', '.', 'F', 'n', 'E', 'x', 'a', 'c', 't', 'R', 'o', 'w', 'O', 'f', 'O', 'n', 'e']] := (congrArg (fun x => behindMainWord (wordsSigns x)) iniS).trans (by kernel_rfl)
theorem mk_cut {P : Program} {r : List (List Char)} (h : behindMainWord (wordsSigns P.initOrder.toList) = ['c', 'u', 't'] :: r) : P.make = some .cut := by
 unfold Program.make
 rw [h]
 rfl
theorem lf_cut {P : Program} {r : List (List Char)} (h : behindMainWord (wordsSigns P.initOrder.toList) = ['c', 'u', 't'] :: r) (k : (stripLifts liftWords (['c', 'u', 't'] :: r)).1 = []) : P.liftsFinal = false := by
 unfold Program.liftsFinal Program.headLifts
 rw [h]
 simp [k]
theorem en_cut {P : Program} {r : List (List Char)} (h : behindMainWord (wordsSigns P.initOrder.toList) = ['c', 'u', 't'] :: r) (k1 : (stripLifts liftWords (['c', 'u', 't'] :: r)).1 = []) (k2 : ((stripLifts liftWords (['c', 'u', 't'] :: r)).2.head? == some "cut".toList) = true) (h1 : P.laysLater = false) (h2 : P.bearsReflect = false) (h3 : P.doorFits [] = true) : P.mayEnter = true := by
 unfold Program.mayEnter
 rw [h]
 simp only [k1, k2, h1, h2, h3]
 simp
theorem make : Try.prog.make = some .cut := mk_cut iniW
theorem lifted : Try.prog.liftsFinal = false := lf_cut iniW (by kernel_rfl)
theorem enter : Try.prog.mayEnter = true := en_cut iniW (by kernel_rfl) (by kernel_rfl) (by kernel_rfl) (by kernel_rfl) (by kernel_rfl)
end Go.Proofs.Ytkcbinohpdhbgaa.Cf
end

