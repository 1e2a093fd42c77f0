/- A part of the proof of FnExactLevelCounts. -/
import Derived.Test.YtnbljcgdgblgoaaBFnExactLevelCounts3
import Derived.Test.YtnbljcgdgblgoaaBFnExactLevelCounts2
import Derived.Test.YtnbljcgdgblgoaaBFnExactLevelCounts1
import Derived.Test.YtnbljcgdgblgoaaBFnExactLevelCounts0
import Derived.Deep.LoopGhost
import Derived.Deep.Slices
import Derived.Lib.SmallJoins
import Derived.ChangeSame
import Derived.Test.YtnbljcgdgblgoaaRows
import Derived.JoinedOf
import Derived.KernelRfl
set_option maxRecDepth 100000
section
namespace Go.Proofs.Ytnbljcgdgblgoaa.Cf
set_option linter.unusedVariables false
set_option linter.unusedSimpArgs false
theorem sumN_le_const {n : Nat} {f : Nat → Int} {c : Int} (h : ∀ i, i < n → f i ≤ c) : sumN n f ≤ n * c := by
 rw [← sumN_const]
 exact sumN_le h
theorem sumN_nonneg {n : Nat} {f : Nat → Int} (h : ∀ i, i < n → 0 ≤ f i) : 0 ≤ sumN n f := by
 have := sumN_le (n := n) (f := fun _ => 0) (g := f) h
 rw [sumN_zero] at this
 exact this
def dual (es : List E) (d : Int → Int) (v : Int) : Int := val es v - 1 - d v
structure Sets (n : Nat) (es : List E) (q : Int) (d u : Int → Int) : Prop where
 pos : ∀ w, 0 ≤ u w
 at_q : u q = 0
 keeps : ∀ v : Int, 0 ≤ v → v < n → v ≠ q → 0 ≤ d v - lap es u v
theorem Sets.zero {n : Nat} {es : List E} {q : Int} {d : Int → Int} (h : ∀ v : Int, 0 ≤ v → v < n → v ≠ q → 0 ≤ d v) : Sets n es q d (fun _ => 0) where
 pos := fun _ => Int.le_refl _
 at_q := rfl
 keeps := fun v h0 h1 h2 => by
  rw [lap_const (c := 0) (fun _ _ => ⟨rfl, rfl⟩)]
  have := h v h0 h1 h2
  omega
def nextB (es : List E) (d : Int → Int) (b : List Int) : Nat → Nat → Int
 | 0, _ => -1
 | k + 1, i => if (i : Int) ∉ b ∧ d i < burnSum es b i then i else nextB es d b k (i + 1)
theorem nextB_ok (es : List E) (d : Int → Int) (b : List Int) : ∀ (k i : Nat), (nextB es d b k i = -1 ∧ ∀ j : Nat, i ≤ j → j < i + k → (j : Int) ∉ b → burnSum es b j ≤ d j) ∨ ((i : Int) ≤ nextB es d b k i ∧ nextB es d b k i < i + k ∧ nextB es d b k i ∉ b ∧ d (nextB es d b k i) < burnSum es b (nextB es d b k i))
 | 0, i => .inl ⟨rfl, fun j h0 h1 => by omega⟩
 | k + 1, i => by
  unfold nextB
  by_cases h : (i : Int) ∉ b ∧ d i < burnSum es b i
  ·rw [if_pos h]
   exact .inr ⟨by omega, by omega, h.1, h.2⟩
  ·rw [if_neg h]
   rcases nextB_ok es d b k (i + 1) with ⟨h1, h2⟩ | ⟨h1, h2, h3⟩
   ·refine .inl ⟨h1, fun j h3 h4 h5 => ?_⟩
    by_cases e : j = i
    ·subst e
     apply Classical.byContradiction
     intro hc
     exact h ⟨h5, by omega⟩
    ·exact h2 j (by omega) (by omega) h5
   ·exact .inr ⟨by omega, by omega, h3⟩
def burnW (n : Nat) (es : List E) (d : Int → Int) : Nat → List Int → List Int
 | 0, b => b
 | k + 1, b => if nextB es d b n 0 < 0 then b else burnW n es d k (b ++ [nextB es d b n 0])
def burnF (n : Nat) (es : List E) (d : Int → Int) (q : Int) : List Int := burnW n es d n [q]
def BClosed (n : Nat) (es : List E) (d : Int → Int) (b : List Int) : Prop := ∀ v : Int, 0 ≤ v → v < n → v ∉ b → burnSum es b v ≤ d v
theorem nextB_closed {n : Nat} {es : List E} {d : Int → Int} {b : List Int} (h : nextB es d b n 0 < 0) : BClosed n es d b := by
 rcases nextB_ok es d b n 0 with ⟨_, h2⟩ | ⟨h1, _⟩
 ·intro v h0 h1 hm
  have e : ((v.toNat : Nat) : Int) = v := by omega
  have := h2 v.toNat (by omega) (by omega) (by rw [e]; exact hm)
  rw [e] at this
  exact this
 ·omega
theorem burnW_ok {n : Nat} {es : List E} {d : Int → Int} {q : Int} (hq : 0 ≤ q ∧ q < n) : ∀ (k : Nat) (b : List Int), n + 1 ≤ b.length + k → Burn n es d q b → Burn n es d q (burnW n es d k b) ∧ BClosed n es d (burnW n es d k b)
 | 0, b, hl, h => by have := h.len hq; omega
 | k + 1, b, hl, h => by
  unfold burnW
  by_cases hc : nextB es d b n 0 < 0
  ·rw [if_pos hc]
   exact ⟨h, nextB_closed hc⟩
  ·rw [if_neg hc]
   rcases nextB_ok es d b n 0 with ⟨h1, _⟩ | ⟨h1, h2, h3, h4⟩
   ·omega
   ·exact burnW_ok hq k _ (by simp; omega) (h.step (by omega) (by omega) h3 h4)
theorem burnF_ok {n : Nat} {es : List E} {d : Int → Int} {q : Int} (hq : 0 ≤ q ∧ q < n) : Burn n es d q (burnF n es d q) ∧ BClosed n es d (burnF n es d q) := burnW_ok hq n [q] (by simp; omega) .start
def RedTo (n : Nat) (es : List E) (q : Int) (d x s : Int → Int) : Prop := Red n es q x ∧ s q = 0 ∧ ∀ v : Int, 0 ≤ v → v < n → x v = d v - lap es s v
theorem Red.lt {n : Nat} {es : List E} (hes : ∀ e ∈ es, EOk n e) {q : Int} {d : Int → Int} (h : Red n es q d) {v : Int} (h0 : 0 ≤ v) (h1 : v < n) (hv : v ≠ q) : 0 ≤ d v ∧ d v < val es v := by
 refine ⟨h.1 v h0 h1 hv, ?_⟩
 obtain ⟨w, _, _, hw, hlt⟩ := h.2 (fun x => decide (x = v)) (by simpa using fun e => hv e.symm) ⟨v, h0, h1, by simp⟩
 obtain rfl : w = v := by simpa using hw
 have e : ind (fun x => decide (x = w)) = one w 1 := by
  funext x
  unfold ind one
  by_cases c : x = w <;> simp [c]
 rw [e, lap_one_self hes] at hlt
 omega
end Go.Proofs.Ytnbljcgdgblgoaa.Cf
end

section
namespace Go.Proofs.Ytnbljcgdgblgoaa.Cf
set_option linter.unusedVariables false
set_option linter.unusedSimpArgs false
open Go.Proofs.YtnbljcgdgblgoaaW.PrintWords
theorem rd_set {x : List Int} {i : Int} (h0 : 0 ≤ i) (h1 : i < x.length) (y : Int) {w : Int} (hw : 0 ≤ w) : rd (x.set i.toNat y) w = if w = i then y else rd x w := by
 obtain ⟨a, rfl⟩ := Int.eq_ofNat_of_zero_le h0
 obtain ⟨b, rfl⟩ := Int.eq_ofNat_of_zero_le hw
 simp only [Int.ofNat_eq_natCast, Int.toNat_natCast, rd_nat, List.getD_eq_getElem?_getD] at *
 by_cases c : b = a
 ·subst c
  rw [List.getElem?_set_self (by omega), if_pos rfl]
  rfl
 ·rw [List.getElem?_set_ne (fun y => c y.symm), if_neg (by omega)]
def Bd (x : List Int) (B : Int) : Prop := ∀ w : Int, 0 ≤ w → w < x.length → -B ≤ rd x w ∧ rd x w ≤ B
theorem Bd.mono {x : List Int} {B B' : Int} (h : Bd x B) (hB : B ≤ B') : Bd x B' := fun w h0 h1 => by have := h w h0 h1; omega
def Rep (n : Nat) (c : List Int) (s : Int → Int) : Prop := c.length = n ∧ ∀ w : Int, 0 ≤ w → w < n → rd c w = s w
theorem Rep.ext {n : Nat} {c c' : List Int} {s : Int → Int} (h : Rep n c s) (h' : Rep n c' s) : c = c' := by
 apply List.ext_getElem (by rw [h.1, h'.1])
 intro i h1 h2
 have e := h.2 i (by omega) (by have := h.1; omega)
 have e' := h'.2 i (by omega) (by have := h.1; omega)
 rw [rd_get h1] at e
 rw [rd_get h2] at e'
 rw [e, e']
theorem Rep.congr {n : Nat} {c : List Int} {s t : Int → Int} (h : Rep n c s) (he : ∀ w : Int, 0 ≤ w → w < n → s w = t w) : Rep n c t := ⟨h.1, fun w h0 h1 => (h.2 w h0 h1).trans (he w h0 h1)⟩
theorem Rep.self {n : Nat} {c : List Int} (h : c.length = n) : Rep n c (rd c) := ⟨h, fun _ _ _ => rfl⟩
theorem Rep.set {n : Nat} {c : List Int} {s : Int → Int} (h : Rep n c s) {v : Int} (h0 : 0 ≤ v) (h1 : v < n) (y : Int) : Rep n (c.set v.toNat y) (fun w => if w = v then y else s w) := by
 refine ⟨by rw [List.length_set]; exact h.1, fun w w0 w1 => ?_⟩
 rw [rd_set h0 (by rw [h.1]; exact h1) y w0, h.2 w w0 w1]
theorem rd_replicate (n : Nat) (v : Int) : rd (List.replicate n (0 : Int)) v = 0 := by
 unfold rd
 rw [List.getD_eq_getElem?_getD]
 by_cases h : v.toNat < n
 ·rw [List.getElem?_replicate_of_lt h]; rfl
 ·rw [List.getElem?_eq_none (by simp; omega)]; rfl
theorem Rep.zero (n : Nat) : Rep n (List.replicate n (0 : Int)) (fun _ => 0) := ⟨by simp, fun w _ _ => rd_replicate n w⟩
def repL (n : Nat) (f : Int → Int) : List Int := (List.range n).map fun i : Nat => f (i : Int)
theorem repL_len (n : Nat) (f : Int → Int) : (repL n f).length = n := by simp [repL]
theorem repL_rep (n : Nat) (f : Int → Int) : Rep n (repL n f) f := by
 refine ⟨by simp [repL], fun w h0 h1 => ?_⟩
 obtain ⟨a, rfl⟩ := Int.eq_ofNat_of_zero_le h0
 rw [rd_get (by simp [repL]; omega)]
 simp [repL]
theorem Rep.eq {n : Nat} {c : List Int} {s : Int → Int} (h : Rep n c s) : c = repL n s := h.ext (repL_rep n s)
theorem Rep.bd {n : Nat} {c : List Int} {s : Int → Int} {B : Int} (h : Rep n c s) (hb : ∀ w : Int, 0 ≤ w → w < n → -B ≤ s w ∧ s w ≤ B) : Bd c B := fun w h0 h1 => by
 rw [h.2 w h0 (by have := h.1; omega)]
 exact hb w h0 (by have := h.1; omega)
def Reduced (n : Nat) (es : List E) (q : Int) (d : List Int) (r : List Int × List Int) : Prop := r.1.length = n ∧ r.2.length = n ∧ RedTo n es q (rd d) (rd r.1) (rd r.2)
theorem sum_rd : ∀ (n : Nat) (c : List Int), c.length = n → c.sum = sumN n (fun i => rd c (i : Int))
 | 0, c, h => by
  obtain rfl := List.length_eq_zero_iff.1 h
  rfl
 | n + 1, c, h => by
  obtain ⟨a, x, rfl⟩ : ∃ a x, c = a ++ [x] := ⟨c.dropLast, c.getLast (by rintro rfl; simp at h), (List.dropLast_concat_getLast _).symm⟩
  simp only [List.length_append, List.length_cons, List.length_nil, Nat.zero_add, Nat.add_right_cancel_iff] at h
  simp only [sumN, List.sum_append, List.sum_cons, List.sum_nil]
  rw [sum_rd n a h]
  congr 1
  ·apply sumN_congr
   intro i hi
   rw [rd_get (show i < a.length by omega), rd_get (show i < (a ++ [x]).length by simp; omega), List.getElem_append_left (by omega)]
  ·subst h
   rw [rd_get (show a.length < (a ++ [x]).length by simp)]
   simp
theorem valG_in {n : Int} {es : List E} {v : Int} (h : 0 ≤ v ∧ v < n) : valG n es v = val es v := by
 unfold valG
 rw [if_pos h]
theorem sum_pick (f : Int → Int) (n : Nat) : ∀ (b : List Int), b.Nodup → (∀ v ∈ b, 0 ≤ v ∧ v < n) → sumN n (fun w => if (w : Int) ∈ b then f w else 0) = (b.map f).sum
 | [], _, _ => by simp [sumN_zero]
 | a :: r, hb, hr => by
  have ha := hr a List.mem_cons_self
  rw [List.map_cons, List.sum_cons, ← sum_pick f n r (List.nodup_cons.1 hb).2 (fun v hv => hr v (List.mem_cons_of_mem _ hv)), ← sumN_one (n := n) a.toNat (by omega) (f a), ← sumN_add]
  apply sumN_congr
  intro i hi
  by_cases e : i = a.toNat
  ·have e' : (i : Int) = a := by omega
   rw [if_pos e, e', if_pos List.mem_cons_self, if_neg (List.nodup_cons.1 hb).1]
   omega
  ·have e' : (i : Int) ≠ a := by omega
   rw [if_neg e]
   simp [e']
end Go.Proofs.Ytnbljcgdgblgoaa.Cf
end

section
namespace Go.Proofs.Ytnbljcgdgblgoaa.Cf
set_option linter.unusedVariables false
set_option linter.unusedSimpArgs false
open Go.RowKit Go.Proofs.YtnbljcgdgblgoaaW.PrintWords Go.Proofs.Ytnbljcgdgblgoaa.P
theorem copy_eq (l : List Int) (h : l.length ≤ 1048576) : impl_copyInts.f l = some l := by
 unfold impl_copyInts.f
 rw [if_pos (by simp; omega)]
 rfl
structure Gr (n : Nat) (es : List E) (q : Int) : Prop where
 n1 : 1 ≤ n
 n6 : n ≤ 6
 hes : ∀ e ∈ es, EOk n e
 hel : es.length ≤ 12
 hj : Joined n es
 hq : 0 ≤ q ∧ q < n
theorem Gr.of {n : Nat} {es : List E} {q : Int} (h : GOk (n : Int) es) (hq : 0 ≤ q ∧ q < n) : Gr n es q := by
 obtain ⟨h1, _, h3⟩ := h
 unfold EsOk at h1
 exact ⟨by omega, by omega, h1.2.2.2, h1.2.2.1, h3, hq⟩
end Go.Proofs.Ytnbljcgdgblgoaa.Cf
end

section
namespace Go.Proofs.Ytnbljcgdgblgoaa.Cf
set_option linter.unusedVariables false
set_option linter.unusedSimpArgs false
open Go.RowKit Go.Proofs.YtnbljcgdgblgoaaW.PrintWords Go.Proofs.YtnbljcgdgblgoaaW.PrintMore Go.Proofs.Ytnbljcgdgblgoaa.P
theorem multE_alt {n : Int} {e : E} (h : EOk n e) {a b : Int} (hab : a ≠ b) : multE a b e = if e.f0 = mn a b ∧ e.f1 = mx a b then 1 else 0 := by
 unfold EOk at h
 unfold multE mn mx
 by_cases c : b < a
 ·rw [if_pos c, if_neg (show ¬ a < b by omega)]
  by_cases x : e.f0 = b ∧ e.f1 = a
  ·rw [if_pos (.inr x), if_pos x]
  ·rw [if_neg (by omega), if_neg x]
 ·rw [if_neg c, if_pos (show a < b by omega)]
  by_cases x : e.f0 = a ∧ e.f1 = b
  ·rw [if_pos (.inl x), if_pos x]
  ·rw [if_neg (by omega), if_neg x]
theorem mult_self {n : Int} {es : List E} (hes : ∀ e ∈ es, EOk n e) (a : Int) : mult es a a = 0 := by
 apply sumE_zero
 intro e he
 have h := hes e he
 unfold EOk at h
 unfold multE
 rw [if_neg (by omega)]
theorem mult_drop {es : List E} {i : Nat} (h : i < es.length) (a b : Int) : mult (es.drop i) a b = multE a b es[i] + mult (es.drop (i + 1)) a b := by
 rw [List.drop_eq_getElem_cons h]
 exact sumE_cons _ _ _
theorem specMult_l0 (n : Int) (es : List E) (hes : ∀ e ∈ es, EOk n e) (hel : es.length ≤ 12) (a b : Int) (hab : a ≠ b) : ∀ (d i : Nat) (c : Int), i + d = es.length → 0 ≤ c → c ≤ i → Ep (fun k => spec_Multiplicity.l0 k a b c es (es.length : Int) (i : Int)) (· = c + mult (es.drop i) a b) := by
 intro d
 induction d with
 | zero =>
  intro i c hi h0 h1
  refine Ep.up ?_
  simp only [spec_Multiplicity.l0]
  refine Ep.neg (by omega) (Ep.now ?_)
  rw [List.drop_of_length_le (by omega)]
  simp [mult, sumE]
 | succ d ih =>
  intro i c hi h0 h1
  have hlt : i < es.length := by omega
  have hk := hes _ (List.getElem_mem hlt)
  refine Ep.up ?_
  simp only [spec_Multiplicity.l0]
  refine Ep.pos (by omega) (Ep.pos (by omega) (Ep.pos (by omega) ?_))
  rw [rdE_get hlt, wrap_succ (by omega), wrap_id (x := c + 1) (by omega) (by omega), mult_drop hlt, multE_alt hk hab]
  refine Ep.ite (fun h => Ep.ite (fun h2 => ?_) (fun h2 => ?_)) (fun h => ?_)
  ·rw [if_pos ⟨h, h2⟩]
   refine (ih (i + 1) (c + 1) (by omega) (by omega) (by omega)).mono ?_
   rintro _ rfl
   omega
  ·rw [if_neg (fun x => h2 x.2)]
   refine (ih (i + 1) c (by omega) (by omega) (by omega)).mono ?_
   rintro _ rfl
   omega
  ·rw [if_neg (fun x => h x.1)]
   refine (ih (i + 1) c (by omega) (by omega) (by omega)).mono ?_
   rintro _ rfl
   omega
theorem l02Vert_eq (n : Int) (es : List E) (v : Int) : spec_l02Vert.f n es v = some (decide (0 ≤ v ∧ v < n)) := by
 unfold spec_l02Vert.f
 by_cases h : v ≥ 0
 ·rw [if_pos h]
  have : (0 ≤ v ∧ v < n) ↔ v < n := ⟨fun x => x.2, fun x => ⟨h, x⟩⟩
  simp only [this]
 ·rw [if_neg h]
  have : ¬ (0 ≤ v ∧ v < n) := fun x => h x.1
  simp only [this, decide_false]
theorem specMult (n : Int) (es : List E) (hes : ∀ e ∈ es, EOk n e) (hel : es.length ≤ 12) (a b : Int) (ha : 0 ≤ a ∧ a < n) (hb : 0 ≤ b ∧ b < n) : Ep (fun k => spec_Multiplicity.f k n es a b) (· = mult es a b) := by
 simp only [spec_Multiplicity.f]
 refine Ep.bind0 (l02Vert_eq _ _ _) (Ep.pos (by simpa using ha) (Ep.bind0 (l02Vert_eq _ _ _) (Ep.pos (by simpa using hb) ?_)))
 refine Ep.up ?_
 simp only [spec_Multiplicity.j0]
 refine Ep.ite (fun h => Ep.now ?_) (fun h => ?_)
 ·have : a = b := by simpa using h
  rw [this, mult_self hes]
 ·have hab : a ≠ b := by simpa using h
  refine (specMult_l0 n es hes hel a b hab es.length 0 0 (by omega) (by omega) (by omega)).mono ?_
  rintro _ rfl
  simp
theorem implMult_l0 (n : Int) (es : List E) (hes : ∀ e ∈ es, EOk n e) (hel : es.length ≤ 12) (a b : Int) (hab : a ≠ b) : ∀ (d i : Nat) (c : Int), i + d = es.length → 0 ≤ c → c ≤ i → Ep (fun k => impl_Multiplicity.l0 k a b c es (es.length : Int) (i : Int)) (· = c + mult (es.drop i) a b) := by
 intro d
 induction d with
 | zero =>
  intro i c hi h0 h1
  refine Ep.up ?_
  simp only [impl_Multiplicity.l0]
  refine Ep.neg (by omega) (Ep.now ?_)
  rw [List.drop_of_length_le (by omega)]
  simp [mult, sumE]
 | succ d ih =>
  intro i c hi h0 h1
  have hlt : i < es.length := by omega
  have hk := hes _ (List.getElem_mem hlt)
  refine Ep.up ?_
  simp only [impl_Multiplicity.l0]
  refine Ep.pos (by omega) (Ep.pos (by omega) (Ep.pos (by omega) ?_))
  rw [rdE_get hlt, wrap_succ (by omega), wrap_id (x := c + 1) (by omega) (by omega), mult_drop hlt, multE_alt hk hab]
  refine Ep.ite (fun h => Ep.ite (fun h2 => ?_) (fun h2 => ?_)) (fun h => ?_)
  ·rw [if_pos ⟨h, h2⟩]
   refine (ih (i + 1) (c + 1) (by omega) (by omega) (by omega)).mono ?_
   rintro _ rfl
   omega
  ·rw [if_neg (fun x => h2 x.2)]
   refine (ih (i + 1) c (by omega) (by omega) (by omega)).mono ?_
   rintro _ rfl
   omega
  ·rw [if_neg (fun x => h x.1)]
   refine (ih (i + 1) c (by omega) (by omega) (by omega)).mono ?_
   rintro _ rfl
   omega
theorem implMult (n : Int) (es : List E) (hes : ∀ e ∈ es, EOk n e) (hel : es.length ≤ 12) (a b : Int) (ha : 0 ≤ a ∧ a < n) (hb : 0 ≤ b ∧ b < n) : Ep (fun k => impl_Multiplicity.f k n es a b) (· = mult es a b) := by
 simp only [impl_Multiplicity.f]
 refine Ep.neg (by unfold mn; split <;> omega) (Ep.neg (by unfold mx; split <;> omega) ?_)
 refine Ep.up ?_
 simp only [impl_Multiplicity.j0]
 refine Ep.ite (fun h => Ep.now ?_) (fun h => ?_)
 ·have : a = b := by simpa using h
  rw [this, mult_self hes]
 ·have hab : a ≠ b := by simpa using h
  refine (implMult_l0 n es hes hel a b hab es.length 0 0 (by omega) (by omega) (by omega)).mono ?_
  rintro _ rfl
  simp
def idxF (x : Int) : List Int → Nat → Int
 | [], _ => -1
 | a :: r, i => if x = a then i else idxF x r (i + 1)
theorem idxF_drop {l : List Int} {i : Nat} (h : i < l.length) (x : Int) (j : Nat) : idxF x (l.drop i) j = if x = l[i] then (j : Int) else idxF x (l.drop (i + 1)) (j + 1) := by
 rw [List.drop_eq_getElem_cons h]
 rfl
theorem idxF_mem (x : Int) : ∀ (l : List Int) (i : Nat), 0 ≤ idxF x l i ↔ x ∈ l
 | [], i => by simp [idxF]
 | a :: r, i => by
  unfold idxF
  by_cases h : x = a
  ·rw [if_pos h, h]; simp
  ·rw [if_neg h, idxF_mem x r (i + 1)]; simp [h]
theorem index_l0 (l : List Int) (x : Int) (hl : l.length ≤ 1048576) : ∀ (d i : Nat), i + d = l.length → Ep (fun k => slices_Index_int_int.l0 k l x (l.length : Int) (i : Int)) (· = idxF x (l.drop i) i) := by
 intro d
 induction d with
 | zero =>
  intro i hi
  refine Ep.up ?_
  simp only [slices_Index_int_int.l0]
  refine Ep.neg (by omega) (Ep.now ?_)
  rw [List.drop_of_length_le (by omega)]
  rfl
 | succ d ih =>
  intro i hi
  have hlt : i < l.length := by omega
  refine Ep.up ?_
  simp only [slices_Index_int_int.l0]
  refine Ep.pos (by omega) (Ep.pos (by omega) (Ep.pos (by omega) ?_))
  rw [rd_get hlt, wrap_succ (by omega), idxF_drop hlt]
  refine Ep.ite (fun h => Ep.now ?_) (fun h => ?_)
  ·rw [if_pos h]
  ·rw [if_neg h]
   exact ih (i + 1) (by omega)
theorem index_ok (l : List Int) (x : Int) (hl : l.length ≤ 1048576) : Ep (fun k => slices_Index_int_int.f k l x) (· = idxF x l 0) := by
 have := index_l0 l x hl l.length 0 (by omega)
 simp only [slices_Index_int_int.f]
 exact this
theorem contains_ok (l : List Int) (x : Int) (hl : l.length ≤ 1048576) : Ep (fun k => slices_Contains_int_int.f k l x) (· = decide (x ∈ l)) := by
 simp only [slices_Contains_int_int.f]
 refine Ep.bind (index_ok l x hl) ?_
 rintro _ rfl
 refine Ep.now ?_
 have := idxF_mem x l 0
 simp only [ge_iff_le, this]
theorem burnSum_bd {es : List E} (hel : es.length ≤ 12) (v : Int) : ∀ (b : List Int), 0 ≤ burnSum es b v ∧ burnSum es b v ≤ 12 * b.length
 | [] => by simp [burnSum]
 | a :: r => by
  have ih := burnSum_bd hel v r
  have h0 := mult_nonneg es v a
  have h1 := mult_le es v a
  unfold burnSum at ih ⊢
  rw [List.map_cons, List.sum_cons, List.length_cons]
  omega
def BRep (n : Nat) (x : List Bool) (b : List Int) : Prop := x.length = n ∧ ∀ w : Nat, w < n → rdOf false x (w : Int) = decide ((w : Int) ∈ b)
theorem BRep.push {n : Nat} {x : List Bool} {b : List Int} (h : BRep n x b) {v : Nat} (hv : v < n) : BRep n (x.set v true) (b ++ [(v : Int)]) := by
 refine ⟨by rw [List.length_set]; exact h.1, fun w hw => ?_⟩
 have := h.2 w hw
 simp only [rdOf, Int.toNat_natCast, List.getD_eq_getElem?_getD] at this ⊢
 by_cases e : v = w
 ·subst e
  rw [List.getElem?_set_self (by have := h.1; omega)]
  simp
 ·rw [List.getElem?_set_ne e, this]
  have : ¬ (w : Int) = v := by omega
  simp [this]
theorem BRep.start {n : Nat} {q : Int} (h0 : 0 ≤ q) (h1 : q < n) : BRep n ((List.replicate n false).set q.toNat true) [q] := by
 have h : BRep n (List.replicate n false) [] := ⟨by simp, fun w hw => by simp [rdOf, hw]⟩
 have := h.push (v := q.toNat) (by omega)
 have e : ((q.toNat : Nat) : Int) = q := by omega
 rw [e] at this
 exact this
theorem specBurn_l2 {n : Nat} {es : List E} {q : Int} (g : Gr n es q) (d : List Int) (hd : d.length = n) (b : List Int) (hok : b.Nodup ∧ ∀ v ∈ b, 0 ≤ v ∧ v < n) (x : List Bool) (hx : BRep n x b) (v : Nat) (hv : v < n) (next : Int) {Q : List Int → Prop}
  (hk : Ep (fun k => spec_l05Burn.l1 k d b x (if (v : Int) ∉ b ∧ rd d v < burnSum es b v then (v : Int) else next) ((v : Int) - 1) (n : Int) es) Q) :
  ∀ (dd i : Nat), i + dd = n → Ep (fun k => spec_l05Burn.l2 k d b x next (v : Int) (sumN i (fun w => if (w : Int) ∈ b then mult es v w else 0)) (i : Int) (n : Int) es) Q := by
 have hn := g.n6
 have hel := g.hel
 have hxl := hx.1
 have hbd : ∀ i, i ≤ n → 0 ≤ sumN i (fun w => if (w : Int) ∈ b then mult es v w else 0) ∧ sumN i (fun w => if (w : Int) ∈ b then mult es v w else 0) ≤ i * 12 := by
  intro i hi
  have hm : ∀ w : Nat, 0 ≤ (if (w : Int) ∈ b then mult es v w else 0) ∧ (if (w : Int) ∈ b then mult es v w else 0) ≤ 12 := by
   intro w
   have h0 := mult_nonneg es v w
   have h1 := mult_le es v w
   split <;> omega
  exact ⟨sumN_nonneg fun w _ => (hm w).1, sumN_le_const fun w _ => (hm w).2⟩
 intro dd
 induction dd with
 | zero =>
  intro i hi
  obtain rfl : i = n := by omega
  rw [sum_pick (mult es v) i b hok.1 hok.2]
  show Ep (fun k => spec_l05Burn.l2 k d b x next (v : Int) (burnSum es b v) (i : Int) (i : Int) es) Q
  refine Ep.up ?_
  simp only [spec_l05Burn.l2]
  rw [wrap_id (x := (v : Int) - 1) (by omega) (by omega)]
  refine Ep.neg (by omega) (Ep.pos (by omega) (Ep.pos (by omega) ?_))
  rw [hx.2 v hv]
  refine Ep.ite (fun h => ?_) (fun h => ?_)
  ·have h' : (v : Int) ∈ b := by simpa using h
   rw [if_neg (fun y => y.1 h')] at hk
   exact hk
  ·have h' : (v : Int) ∉ b := by simpa using h
   refine Ep.pos (by omega) (Ep.ite (fun h2 => ?_) (fun h2 => ?_))
   ·rw [if_pos ⟨h', h2⟩] at hk
    exact hk
   ·rw [if_neg (fun y => h2 y.2)] at hk
    exact hk
 | succ dd ih =>
  intro i hi
  have hb := hbd i (by omega)
  have hb1 := hbd (i + 1) (by omega)
  have ih' := ih (i + 1) (by omega)
  simp only [sumN] at ih' hb1
  refine Ep.up ?_
  simp only [spec_l05Burn.l2]
  refine Ep.pos (by omega) (Ep.pos (by omega) (Ep.pos (by omega) ?_))
  rw [hx.2 i (by omega), wrap_succ (by omega)]
  refine Ep.ite (fun h => ?_) (fun h => ?_)
  ·have h' : (i : Int) ∈ b := by simpa using h
   rw [if_pos h'] at ih' hb1
   refine Ep.bind (specMult n es g.hes hel v i (by omega) (by omega)) ?_
   rintro _ rfl
   rw [wrap_id (by omega) (by omega)]
   exact ih'
  ·have h' : (i : Int) ∉ b := by simpa using h
   rw [if_neg h', Int.add_zero] at ih'
   exact ih'
theorem specBurn_l1 {n : Nat} {es : List E} {q : Int} (g : Gr n es q) (d : List Int) (hd : d.length = n) (b : List Int) (hok : b.Nodup ∧ ∀ v ∈ b, 0 ≤ v ∧ v < n) (x : List Bool) (hx : BRep n x b) {Q : List Int → Prop}
  (hk : Ep (fun k => spec_l05Burn.l1 k d b x (nextB es (rd d) b n 0) (-1) (n : Int) es) Q) :
  ∀ i : Nat, i ≤ n → Ep (fun k => spec_l05Burn.l1 k d b x (nextB es (rd d) b (n - i) i) ((i : Int) - 1) (n : Int) es) Q := by
 have hn := g.n6
 intro i
 induction i with
 | zero => intro _; exact hk
 | succ i ih =>
  intro hi
  have ih' := ih (by omega)
  obtain ⟨m, hm⟩ : ∃ m, n - i = m + 1 := ⟨n - i - 1, by omega⟩
  have hm2 : n - (i + 1) = m := by omega
  rw [hm] at ih'
  unfold nextB at ih'
  rw [hm2, show (((i + 1 : Nat) : Int) - 1) = (i : Int) by omega]
  refine Ep.up ?_
  simp only [spec_l05Burn.l1]
  refine Ep.pos (by omega) ?_
  exact specBurn_l2 g d hd b hok x hx i (by omega) _ ih' n 0 (by omega)
theorem specBurn_l0 {n : Nat} {es : List E} {q : Int} (g : Gr n es q) (d : List Int) (hd : d.length = n) : ∀ (k : Nat) (b : List Int) (x : List Bool), n + 1 ≤ b.length + k → Burn n es (rd d) q b → BRep n x b → Ep (fun f => spec_l05Burn.l0 f d b x (n : Int) es) (· = burnW n es (rd d) k b) := by
 have hn := g.n6
 intro k
 induction k with
 | zero =>
  intro b x hl hb _
  have := hb.len g.hq
  omega
 | succ k ih =>
  intro b x hl hb hx
  have hok := hb.ok g.hq
  have hlen := hb.len g.hq
  have hxl := hx.1
  refine Ep.up ?_
  simp only [spec_l05Burn.l0]
  rw [wrap_id (x := (n : Int) - 1) (by omega) (by omega)]
  have h1 := specBurn_l1 (Q := (· = burnW n es (rd d) (k + 1) b)) g d hd b ⟨hok.1, hok.2.1⟩ x hx ?_ n (Nat.le_refl _)
  ·rw [Nat.sub_self] at h1
   exact h1
  ·unfold burnW
   have hnx := nextB_ok es (rd d) b n 0
   generalize nextB es (rd d) b n 0 = v at hnx ⊢
   refine Ep.up ?_
   simp only [spec_l05Burn.l1]
   refine Ep.neg (by omega) (Ep.ite (fun h => Ep.now ?_) (fun h => ?_))
   ·rw [if_pos h]
   ·rw [if_neg h]
    rcases hnx with ⟨h2, _⟩ | ⟨h2, h3, h4, h5⟩
    ·omega
    ·obtain ⟨v, rfl⟩ := Int.eq_ofNat_of_zero_le (a := v) (by omega)
     refine Ep.pos (by omega) (Ep.pos (by omega) (Ep.pos (by omega) ?_))
     exact ih _ _ (by simp; omega) (hb.step (by omega) (by omega) h4 h5) (hx.push (by omega))
theorem specBurn {n : Nat} {es : List E} {q : Int} (g : Gr n es q) (d : List Int) (hd : d.length = n) : Ep (fun k => spec_l05Burn.f k (n : Int) es d q) (· = burnF n es (rd d) q) := by
 have hn := g.n6
 have hq := g.hq
 simp only [spec_l05Burn.f]
 refine Ep.pos (by omega) (Ep.pos (by omega) (Ep.bind0 rfl (Ep.pos (by omega) (Ep.pos (by simp; omega) ?_))))
 exact specBurn_l0 g d hd n [q] _ (by simp; omega) .start (BRep.start hq.1 hq.2)
theorem implBurn_l2 {n : Nat} {es : List E} {q : Int} (g : Gr n es q) (d : List Int) (hd : d.length = n) (b : List Int) (hok : b.Nodup ∧ ∀ v ∈ b, 0 ≤ v ∧ v < n) (hbl : b.length ≤ n) (v : Nat) (hv : v < n) {Q : List Int → Prop}
  (hk : Ep (fun k => impl_burn.l1 k d b (if (v : Int) ∉ b ∧ rd d v < burnSum es b v then (v : Int) else -1) ((v + 1 : Nat) : Int) (n : Int) es) Q) :
  ∀ (dd i : Nat), i + dd = b.length → Ep (fun k => impl_burn.l2 k d b (-1) (v : Int) (burnSum es (b.take i) v) b (b.length : Int) (i : Int) (n : Int) es) Q := by
 have hn := g.n6
 have hel := g.hel
 intro dd
 induction dd with
 | zero =>
  intro i hi
  rw [List.take_of_length_le (by omega)]
  refine Ep.up ?_
  simp only [impl_burn.l2]
  have hw := wrap_succ (i := v) (by omega)
  rw [hw]
  refine Ep.neg (by omega) ?_
  refine Ep.bind (contains_ok b v (by omega)) ?_
  rintro _ rfl
  refine Ep.ite (fun h => ?_) (fun h => ?_)
  ·have h' : (v : Int) ∈ b := by simpa using h
   rw [if_neg (fun y => y.1 h')] at hk
   exact hk
  ·have h' : (v : Int) ∉ b := by simpa using h
   refine Ep.pos (by omega) (Ep.pos (by omega) (Ep.ite (fun h2 => ?_) (fun h2 => ?_)))
   ·rw [if_pos ⟨h', h2⟩] at hk
    exact hk
   ·rw [if_neg (fun y => h2 y.2)] at hk
    exact hk
 | succ dd ih =>
  intro i hi
  have hlt : i < b.length := by omega
  have hbi := hok.2 _ (List.getElem_mem hlt)
  have hb := burnSum_bd hel v (b.take i)
  have hml := mult_le es v b[i]
  have hm0 := mult_nonneg es v b[i]
  rw [List.length_take] at hb
  have e : burnSum es (b.take (i + 1)) v = burnSum es (b.take i) v + mult es v b[i] := by
   unfold burnSum
   rw [List.take_succ_eq_append_getElem hlt, List.map_append, List.sum_append]
   simp
  have ih' := ih (i + 1) (by omega)
  rw [e] at ih'
  refine Ep.up ?_
  simp only [impl_burn.l2]
  refine Ep.pos (by omega) (Ep.pos (by omega) (Ep.pos (by omega) ?_))
  rw [rd_get hlt, wrap_succ (by omega)]
  refine Ep.bind (implMult n es g.hes hel v b[i] (by omega) hbi) ?_
  rintro _ rfl
  rw [wrap_id (by omega) (by omega)]
  exact ih'
theorem implBurn_l1 {n : Nat} {es : List E} {q : Int} (g : Gr n es q) (d : List Int) (hd : d.length = n) (b : List Int) (hok : b.Nodup ∧ ∀ v ∈ b, 0 ≤ v ∧ v < n) (hbl : b.length ≤ n) {Q : List Int → Prop}
  (hk : Ep (fun k => if nextB es (rd d) b n 0 < 0 then some b else (if b.length < 17592186044416 then impl_burn.l0 k d (b ++ [nextB es (rd d) b n 0]) (n : Int) es else none)) Q) :
  ∀ (dd i : Nat), i + dd = n → nextB es (rd d) b n 0 = nextB es (rd d) b dd i → Ep (fun k => impl_burn.l1 k d b (-1) (i : Int) (n : Int) es) Q := by
 have hn := g.n6
 intro dd
 induction dd with
 | zero =>
  intro i hi he
  rw [he] at hk
  simp only [nextB] at hk
  refine Ep.up ?_
  simp only [impl_burn.l1]
  refine Ep.neg (by omega) (Ep.up ?_)
  simp only [impl_burn.j2]
  exact Ep.neg (by simp) hk
 | succ dd ih =>
  intro i hi he
  refine Ep.up ?_
  simp only [impl_burn.l1]
  refine Ep.pos (by omega) (Ep.up ?_)
  simp only [impl_burn.j2]
  refine Ep.pos (by simp) ?_
  have h2 := implBurn_l2 (Q := Q) g d hd b hok hbl i (by omega) ?_ b.length 0 (by omega)
  ·simpa [burnSum] using h2
  ·replace he : nextB es (rd d) b n 0 = (if (i : Int) ∉ b ∧ rd d i < burnSum es b i then (i : Int) else nextB es (rd d) b dd (i + 1)) := he
   by_cases h : (i : Int) ∉ b ∧ rd d i < burnSum es b i
   ·rw [if_pos h] at he ⊢
    rw [he] at hk
    refine Ep.up ?_
    simp only [impl_burn.l1]
    refine Ep.ite (fun _ => ?_) (fun _ => ?_)
    ·refine Ep.up ?_
     simp only [impl_burn.j2]
     exact Ep.neg (by simp) hk
    ·refine Ep.up ?_
     simp only [impl_burn.j2]
     exact Ep.neg (by simp) hk
   ·rw [if_neg h] at he ⊢
    exact ih (i + 1) (by omega) he
theorem implBurn_l0 {n : Nat} {es : List E} {q : Int} (g : Gr n es q) (d : List Int) (hd : d.length = n) : ∀ (k : Nat) (b : List Int), n + 1 ≤ b.length + k → Burn n es (rd d) q b → Ep (fun f => impl_burn.l0 f d b (n : Int) es) (· = burnW n es (rd d) k b) := by
 have hn := g.n6
 intro k
 induction k with
 | zero =>
  intro b hl hb
  have := hb.len g.hq
  omega
 | succ k ih =>
  intro b hl hb
  have hok := hb.ok g.hq
  have hlen := hb.len g.hq
  refine Ep.up ?_
  simp only [impl_burn.l0]
  refine implBurn_l1 (Q := (· = burnW n es (rd d) (k + 1) b)) g d hd b ⟨hok.1, hok.2.1⟩ hlen ?_ n 0 (by omega) rfl
  unfold burnW
  have hnx := nextB_ok es (rd d) b n 0
  generalize nextB es (rd d) b n 0 = v at hnx ⊢
  refine Ep.ite (fun h => Ep.now ?_) (fun h => ?_)
  ·rw [if_pos h]
  ·rw [if_neg h]
   rcases hnx with ⟨h2, _⟩ | ⟨h2, h3, h4, h5⟩
   ·omega
   ·exact Ep.pos (by omega) (ih _ (by simp; omega) (hb.step (by omega) (by omega) h4 h5))
theorem implBurn {n : Nat} {es : List E} {q : Int} (g : Gr n es q) (d : List Int) (hd : d.length = n) : Ep (fun k => impl_burn.f k (n : Int) es d q) (· = burnF n es (rd d) q) := by
 have hn := g.n6
 simp only [impl_burn.f]
 exact implBurn_l0 g d hd n [q] (by simp; omega) .start
end Go.Proofs.Ytnbljcgdgblgoaa.Cf
end

section
namespace Go.Proofs.Ytnbljcgdgblgoaa.Cf
set_option linter.unusedVariables false
set_option linter.unusedSimpArgs false
open Go.RowKit Go.Proofs.YtnbljcgdgblgoaaW.PrintWords
def alt : Nat → (Nat → Int) → Int
 | 0, _ => 0
 | n + 1, g => g 0 - alt n fun i => g (i + 1)
theorem alt_congr : ∀ {n : Nat} {f g : Nat → Int}, (∀ i, i < n → f i = g i) → alt n f = alt n g
 | 0, _, _, _ => rfl
 | n + 1, f, g, h => by
  unfold alt
  rw [h 0 (by omega), alt_congr (n := n) (f := fun i => f (i + 1)) (g := fun i => g (i + 1)) fun i hi => h (i + 1) (by omega)]
theorem alt_bd {n : Nat} {g : Nat → Int} {C : Int} (h : ∀ i, i < n → -C ≤ g i ∧ g i ≤ C) : -(n * C) ≤ alt n g ∧ alt n g ≤ n * C := by
 induction n generalizing g with
 | zero => simp [alt]
 | succ n ih =>
  have h0 := h 0 (by omega)
  have h1 := ih (g := fun i => g (i + 1)) fun i hi => h (i + 1) (by omega)
  unfold alt
  have e : ((n + 1 : Nat) : Int) * C = n * C + C := by rw [Int.natCast_add, Int.add_mul]; simp
  omega
def ent (M : List (List Int)) (r c : Int) : Int := rd (M.getD r.toNat []) c
def detL (M : List (List Int)) : List Int → List Int → Int
 | [], _ => 1
 | r :: rs, cs => alt cs.length fun i => ent M r (cs.getD i 0) * detL M rs (cs.eraseIdx i)
theorem mul_bd {a b A B : Int} (ha : -A ≤ a ∧ a ≤ A) (hb : -B ≤ b ∧ b ≤ B) : -(A * B) ≤ a * b ∧ a * b ≤ A * B := by
 have hA : 0 ≤ A := by omega
 have h1 : a.natAbs * b.natAbs ≤ A.natAbs * B.natAbs := Nat.mul_le_mul (by omega) (by omega)
 rw [← Int.natAbs_mul, ← Int.natAbs_mul] at h1
 have h2 : 0 ≤ A * B := Int.mul_nonneg (by omega) (by omega)
 omega
theorem detL_bd {M : List (List Int)} {B : Int} (hB : 0 ≤ B) (hM : ∀ r c, -B ≤ ent M r c ∧ ent M r c ≤ B) : ∀ (rs cs : List Int), cs.length ≤ 6 → -((6 * B) ^ rs.length) ≤ detL M rs cs ∧ detL M rs cs ≤ (6 * B) ^ rs.length
 | [], cs, _ => by simp [detL]
 | r :: rs, cs, hc => by
  have h := alt_bd (n := cs.length) (g := fun i => ent M r (cs.getD i 0) * detL M rs (cs.eraseIdx i)) (C := B * (6 * B) ^ rs.length) fun i hi =>
   mul_bd (hM _ _) (detL_bd hB hM rs (cs.eraseIdx i) (by have := List.length_eraseIdx_le cs i; omega))
  have hp : 0 ≤ B * (6 * B) ^ rs.length := Int.mul_nonneg hB (Int.pow_nonneg (by omega))
  have e : (6 * B) ^ (r :: rs).length = 6 * (B * (6 * B) ^ rs.length) := by
   rw [List.length_cons, Int.pow_succ, Int.mul_comm, Int.mul_assoc]
  have h6 : (cs.length : Int) * (B * (6 * B) ^ rs.length) ≤ 6 * (B * (6 * B) ^ rs.length) := Int.mul_le_mul_of_nonneg_right (by omega) hp
  rw [e]
  unfold detL
  omega
abbrev Col := Int → Int
def z0 : Col := fun _ => 0
def detC : List Int → List Col → Int
 | [], _ => 1
 | r :: rs, cs => alt cs.length fun i => (cs.getD i z0) r * detC rs (cs.eraseIdx i)
end Go.Proofs.Ytnbljcgdgblgoaa.Cf
end

section
namespace Go.Proofs.Ytnbljcgdgblgoaa.Cf
set_option linter.unusedVariables false
set_option linter.unusedSimpArgs false
open Go.RowKit Go.Proofs.YtnbljcgdgblgoaaW.PrintWords Go.Proofs.Ytnbljcgdgblgoaa.P
def bitsB (m i : Nat) : List Int := ((List.range i).filter fun j => m.testBit j).map fun j : Nat => (j : Int)
def bitsL (m : Nat) : List Int := bitsB m 6
theorem bm_on : ∀ (m : Fin 64) (i : Fin 7), (shr .i64 (m.val : Int) (i.val : Int) > 0 ∧ i.val < 6) ∨ (¬ shr .i64 (m.val : Int) (i.val : Int) > 0 ∧ bitsB m.val i.val = bitsL m.val) := by decide
theorem bm_val : ∀ (m : Fin 64) (i : Fin 6), (Go.bits .and .i64 (shr .i64 (m.val : Int) (i.val : Int)) 1 = 1 ∧ m.val.testBit i.val = true) ∨ (Go.bits .and .i64 (shr .i64 (m.val : Int) (i.val : Int)) 1 = 0 ∧ m.val.testBit i.val = false) := by decide
theorem bitsB_succ (m i : Nat) : bitsB m (i + 1) = bitsB m i ++ (if m.testBit i then [(i : Int)] else []) := by
 unfold bitsB
 rw [List.range_succ, List.filter_append, List.map_append]
 congr 1
 by_cases c : m.testBit i = true
 ·rw [if_pos c, List.filter_cons_of_pos (by simpa using c)]; rfl
 ·rw [if_neg c, List.filter_cons_of_neg (by simpa using c)]; rfl
theorem bitsB_len (m i : Nat) : (bitsB m i).length ≤ i := by
 unfold bitsB
 rw [List.length_map]
 exact Nat.le_trans (List.length_filter_le _ _) (by simp)
theorem bm_drop : ∀ (m : Fin 64) (i : Fin 6), m.val.testBit i.val = true → ∃ m' : Fin 64, Go.bits .andNot .i64 (m.val : Int) (shl .i64 1 (i.val : Int)) = (m'.val : Int) ∧ bitsL m'.val = (bitsL m.val).eraseIdx (bitsB m.val i.val).length ∧ (bitsL m.val)[(bitsB m.val i.val).length]? = some (i.val : Int) ∧ m'.val ≤ m.val := by decide
theorem bm_all : ∀ (m : Fin 64) (i : Fin 7), m.val < 2 ^ i.val → bitsB m.val i.val = bitsL m.val := by decide
theorem bm_full0 : ∀ i : Fin 7, bitsL (2 ^ i.val - 1) = (List.range i.val).map (fun j : Nat => (j : Int)) ∧ shl .i64 1 (i.val : Int) = ((2 ^ i.val : Nat) : Int) ∧ (2 ^ i.val - 1 : Nat) < 64 ∧ 0 < 2 ^ i.val := by decide
theorem bm_full {i : Nat} (hi : i < 7) : bitsL (2 ^ i - 1) = (List.range i).map (fun j : Nat => (j : Int)) ∧ wrap64 (shl .i64 1 (i : Int) - 1) = ((2 ^ i - 1 : Nat) : Int) ∧ shl .i64 1 (i : Int) = ((2 ^ i : Nat) : Int) ∧ (2 ^ i - 1 : Nat) < 64 := by
 obtain ⟨h1, h2, h3, h4⟩ := bm_full0 ⟨i, hi⟩
 simp only at h1 h2 h3 h4
 refine ⟨h1, ?_, h2, h3⟩
 rw [h2, wrap_id (by omega) (by omega)]
 omega
theorem implBits_l0 {m : Nat} (hm : m < 64) : ∀ (d i : Nat), i + d = 6 → Ep (fun k => impl_bitsOf.l0 k (m : Int) (bitsB m i) (i : Int)) (· = bitsL m) := by
 intro d
 induction d with
 | zero =>
  intro i hi
  refine Ep.up ?_
  simp only [impl_bitsOf.l0]
  rcases bm_on ⟨m, hm⟩ ⟨i, by omega⟩ with ⟨_, h⟩ | ⟨h1, h2⟩
  ·exact absurd h (by simp; omega)
  ·exact Ep.pos (by omega) (Ep.neg h1 (Ep.now h2))
 | succ d ih =>
  intro i hi
  have h := ih (i + 1) (by omega)
  rw [bitsB_succ] at h
  refine Ep.up ?_
  simp only [impl_bitsOf.l0]
  rcases bm_on ⟨m, hm⟩ ⟨i, by omega⟩ with ⟨h1, _⟩ | ⟨h1, h2⟩
  ·refine Ep.pos (by omega) (Ep.pos h1 ?_)
   rw [wrap_succ (by omega)]
   rcases bm_val ⟨m, hm⟩ ⟨i, by omega⟩ with ⟨b1, b2⟩ | ⟨b1, b2⟩
   ·rw [if_pos b2] at h
    exact Ep.pos b1 (Ep.pos (by have := bitsB_len m i; omega) h)
   ·have b1' : Go.bits .and .i64 (shr .i64 (m : Int) (i : Int)) 1 = 0 := b1
    rw [if_neg (by simpa using b2), List.append_nil] at h
    exact Ep.neg (by rw [b1']; omega) h
  ·exact Ep.pos (by omega) (Ep.neg h1 (Ep.now h2))
theorem implBits {m : Nat} (hm : m < 64) : Ep (fun k => impl_bitsOf.f k (m : Int)) (· = bitsL m) := implBits_l0 hm 6 0 rfl
end Go.Proofs.Ytnbljcgdgblgoaa.Cf
end

section
namespace Go.Proofs.Ytnbljcgdgblgoaa.Cf
set_option linter.unusedVariables false
set_option linter.unusedSimpArgs false
open Go.RowKit Go.Proofs.YtnbljcgdgblgoaaW.PrintWords
def lapM (es : List E) (r c : Int) : Int := if r = c then val es r else - mult es r c
def dlap (es : List E) (vs : List Int) : Int := detC vs (vs.map fun c r => lapM es r c)
theorem getD_map {α β : Type} (f : α → β) (l : List α) (i : Nat) (d : α) (d' : β) (h : i < l.length) : (l.map f).getD i d' = f (l.getD i d) := by
 rw [List.getD_eq_getElem?_getD, List.getElem?_map, List.getD_eq_getElem?_getD, List.getElem?_eq_getElem h]
 rfl
theorem getD_mem {α : Type} {l : List α} {i : Nat} (d : α) (h : i < l.length) : l.getD i d ∈ l := by
 rw [List.getD_eq_getElem?_getD, List.getElem?_eq_getElem h]
 exact List.getElem_mem h
theorem map_eraseIdx {α β : Type} (f : α → β) (l : List α) (i : Nat) : (l.map f).eraseIdx i = (l.eraseIdx i).map f := by
 apply List.ext_getElem?
 intro k
 simp only [List.getElem?_eraseIdx, List.getElem?_map]
 split <;> rfl
end Go.Proofs.Ytnbljcgdgblgoaa.Cf
end

section
namespace Go.Proofs.Ytnbljcgdgblgoaa.Cf
set_option linter.unusedVariables false
set_option linter.unusedSimpArgs false
open Go.RowKit Go.Proofs.YtnbljcgdgblgoaaW.PrintWords Go.Proofs.Ytnbljcgdgblgoaa.P
def Mod (l : List Int) : Prop := ∀ x ∈ l, -1000000000 ≤ x ∧ x ≤ 1000000000
theorem implSum_l0 (l : List Int) (hl : l.length ≤ 1048576) (hm : Mod l) : ∀ (d i : Nat) (a : Int), i + d = l.length → -(1000000000 * (i : Int)) ≤ a → a ≤ 1000000000 * (i : Int) → Ep (fun k => impl_sumOf.l0 k a l (l.length : Int) (i : Int)) (· = a + (l.drop i).sum) := by
 intro d
 induction d with
 | zero =>
  intro i a hi h0 h1
  refine Ep.up ?_
  simp only [impl_sumOf.l0]
  refine Ep.neg (by omega) (Ep.now ?_)
  rw [List.drop_of_length_le (by omega)]
  simp
 | succ d ih =>
  intro i a hi h0 h1
  have hlt : i < l.length := by omega
  have hx := hm _ (List.getElem_mem hlt)
  refine Ep.up ?_
  simp only [impl_sumOf.l0]
  refine Ep.pos (by omega) (Ep.pos (by omega) (Ep.pos (by omega) ?_))
  rw [rd_get hlt, wrap_succ (by omega), wrap_id (by omega) (by omega), List.drop_eq_getElem_cons hlt]
  refine (ih (i + 1) _ (by omega) (by omega) (by omega)).mono ?_
  rintro _ rfl
  rw [List.sum_cons]
  omega
theorem implSum (l : List Int) (hl : l.length ≤ 1048576) (hm : Mod l) : Ep (fun k => impl_sumOf.f k l) (· = l.sum) := by
 simp only [impl_sumOf.f]
 refine (implSum_l0 l hl hm l.length 0 0 (by omega) (by omega) (by omega)).mono ?_
 rintro _ rfl
 simp
theorem specSum_l0 (l : List Int) (hl : l.length ≤ 1048576) (hm : Mod l) : ∀ (d i : Nat) (a : Int), i + d = l.length → -(1000000000 * (i : Int)) ≤ a → a ≤ 1000000000 * (i : Int) → Ep (fun k => spec_DegreeOf.l0 k a l (l.length : Int) (i : Int)) (· = a + (l.drop i).sum) := by
 intro d
 induction d with
 | zero =>
  intro i a hi h0 h1
  refine Ep.up ?_
  simp only [spec_DegreeOf.l0]
  refine Ep.neg (by omega) (Ep.now ?_)
  rw [List.drop_of_length_le (by omega)]
  simp
 | succ d ih =>
  intro i a hi h0 h1
  have hlt : i < l.length := by omega
  have hx := hm _ (List.getElem_mem hlt)
  refine Ep.up ?_
  simp only [spec_DegreeOf.l0]
  refine Ep.pos (by omega) (Ep.pos (by omega) (Ep.pos (by omega) ?_))
  rw [rd_get hlt, wrap_succ (by omega), wrap_id (by omega) (by omega), List.drop_eq_getElem_cons hlt]
  refine (ih (i + 1) _ (by omega) (by omega) (by omega)).mono ?_
  rintro _ rfl
  rw [List.sum_cons]
  omega
theorem specSum (l : List Int) (hl : l.length ≤ 1048576) (hm : Mod l) : Ep (fun k => spec_DegreeOf.f k l) (· = l.sum) := by
 simp only [spec_DegreeOf.f]
 refine (specSum_l0 l hl hm l.length 0 0 (by omega) (by omega) (by omega)).mono ?_
 rintro _ rfl
 simp
def fullAt (n : Int) (es : List E) (q : Int) (i : Nat) : Int := if (i : Int) = q then 0 else valG n es i - 1
def fullL (n : Int) (es : List E) (q : Int) : List Int := (List.range n.toNat).map (fullAt n es q)
def fullP (n : Int) (es : List E) (q : Int) : List Int := if gOk n es = true ∧ 0 ≤ q ∧ q < n then fullL n es q else []
theorem valG_bd {n : Int} {es : List E} {v : Int} : 0 ≤ valG n es v ∧ valG n es v ≤ es.length := by
 unfold valG
 split
 ·exact ⟨val_nonneg es v, val_le es v⟩
 ·omega
theorem map_take_succ {α : Type} (f : Nat → α) (n i : Nat) (h : i < n) : ((List.range n).map f).take (i + 1) = ((List.range n).map f).take i ++ [f i] := by
 rw [List.take_succ_eq_append_getElem (by simpa using h)]
 simp
theorem specFull_l0 (n : Nat) (es : List E) (q : Int) (hn : n ≤ 6) (hel : es.length ≤ 12) : ∀ (d i : Nat), i + d = n → Ep (fun k => spec_FullPile.l0 k q ((fullL n es q).take i) (i : Int) (n : Int) es) (· = fullL n es q) := by
 intro d
 have hL : (fullL n es q).length = n := by simp [fullL]
 induction d with
 | zero =>
  intro i hi
  refine Ep.up ?_
  simp only [spec_FullPile.l0]
  refine Ep.neg (by omega) (Ep.now ?_)
  rw [List.take_of_length_le (by omega)]
 | succ d ih =>
  intro i hi
  have ht : (fullL n es q).take (i + 1) = (fullL n es q).take i ++ [fullAt n es q i] := by
   unfold fullL
   rw [Int.toNat_natCast]
   exact map_take_succ _ n i (by omega)
  have hlen : ((fullL n es q).take i).length < 17592186044416 := by rw [List.length_take]; omega
  have ih' := ih (i + 1) (by omega)
  rw [ht] at ih'
  refine Ep.up ?_
  simp only [spec_FullPile.l0]
  rw [wrap_succ (by omega)]
  refine Ep.pos (by omega) (Ep.ite (fun h => Ep.pos hlen ?_) (fun h => ?_))
  ·unfold fullAt at ih'
   rw [if_pos h] at ih'
   exact ih'
  ·refine Ep.bind (specValence n es i (by omega)) ?_
   rintro _ rfl
   have := valG_bd (n := n) (es := es) (v := i)
   rw [wrap_id (by omega) (by omega)]
   unfold fullAt at ih'
   rw [if_neg h] at ih'
   exact Ep.pos hlen ih'
theorem specFull (n : Int) (es : List E) (q : Int) : Ep (fun k => spec_FullPile.f k n es q) (· = fullP n es q) := by
 simp only [spec_FullPile.f]
 refine Ep.bind (specGraph n es) ?_
 rintro _ rfl
 refine Ep.ite (fun hg => ?_) (fun hg => ?_)
 ·have hG1 := (gOk_true hg).1
  unfold EsOk at hG1
  rw [wrap_id (x := n - 1) (by omega) (by omega)]
  refine Ep.bind0 (l01In_eq _ _ _) ?_
  refine Ep.up ?_
  simp only [spec_FullPile.j0]
  refine Ep.ite (fun h => Ep.now ?_) (fun h => ?_)
  ·have h' : ¬ (0 ≤ q ∧ q ≤ n - 1) := by
    intro x
    simp [x] at h
   unfold fullP
   rw [if_neg (fun x => h' (by omega))]
  ·have h' : 0 ≤ q ∧ q ≤ n - 1 := by simpa using h
   unfold fullP
   rw [if_pos ⟨hg, by omega, by omega⟩]
   obtain ⟨m, rfl⟩ := Int.eq_ofNat_of_zero_le (a := n) (by omega)
   exact specFull_l0 m es q (by omega) hG1.2.2.1 m 0 (by omega)
 ·refine Ep.up ?_
  simp only [spec_FullPile.j0]
  refine Ep.pos trivial (Ep.now ?_)
  unfold fullP
  rw [if_neg (fun x => hg x.1)]
theorem implFull_l0 (n : Nat) (es : List E) (q : Int) (hn : n ≤ 6) (hel : es.length ≤ 12) : ∀ (d i : Nat) (x : List Int), i + d = n → x.length = n → (∀ j, j < i → x[j]? = (fullL n es q)[j]?) → (∀ j, i ≤ j → j < n → x[j]? = some 0) → Ep (fun k => impl_FullPile.l0 k q x (n : Int) (i : Int) (n : Int) es) (· = fullL n es q) := by
 intro d
 have hL : (fullL n es q).length = n := by simp [fullL]
 have hget : ∀ j, j < n → (fullL n es q)[j]? = some (fullAt n es q j) := fun j hj => by simp [fullL, hj]
 induction d with
 | zero =>
  intro i x hi hx hd _
  refine Ep.up ?_
  simp only [impl_FullPile.l0]
  refine Ep.neg (by omega) (Ep.now ?_)
  apply List.ext_getElem?
  intro j
  by_cases hj : j < i
  ·exact hd j hj
  ·rw [List.getElem?_eq_none (by omega), List.getElem?_eq_none (by omega)]
 | succ d ih =>
  intro i x hi hx hd hz
  refine Ep.up ?_
  simp only [impl_FullPile.l0]
  rw [wrap_succ (by omega)]
  refine Ep.pos (by omega) (Ep.ite (fun h => ?_) (fun h => ?_))
  ·refine ih (i + 1) x (by omega) hx ?_ (fun j hj => hz j (by omega))
   intro j hj
   by_cases e : j = i
   ·subst e
    rw [hz j (Nat.le_refl _) (by omega), hget j (by omega)]
    unfold fullAt
    rw [if_pos h]
   ·exact hd j (by omega)
  ·refine Ep.bind (implValence n es i (by omega)) ?_
   rintro _ rfl
   have := valG_bd (n := n) (es := es) (v := i)
   rw [wrap_id (x := valG (n : Int) es i - 1) (by omega) (by omega), Int.toNat_natCast]
   refine Ep.pos (by omega) (Ep.pos (by omega) (ih (i + 1) _ (by omega) (by simpa using hx) ?_ ?_))
   ·intro j hj
    by_cases e : i = j
    ·subst e
     rw [List.getElem?_set_self (by omega), hget i (by omega)]
     unfold fullAt
     rw [if_neg h]
    ·rw [List.getElem?_set_ne e]
     exact hd j (by omega)
   ·intro j hj hjn
    rw [List.getElem?_set_ne (by omega)]
    exact hz j (by omega) hjn
theorem implFull (n : Int) (es : List E) (q : Int) (hn : Wf .i64 n) : Ep (fun k => impl_FullPile.f k n es q) (· = fullP n es q) := by
 simp only [impl_FullPile.f]
 refine Ep.bind0 (isVertex_eq n es q hn) ?_
 refine Ep.ite (fun h => ?_) (fun h => Ep.now ?_)
 ·have h' : gOk n es = true ∧ 0 ≤ q ∧ q < n := by simpa using h
  have hG1 := (gOk_true h'.1).1
  unfold EsOk at hG1
  unfold fullP
  rw [if_pos h']
  obtain ⟨m, rfl⟩ := Int.eq_ofNat_of_zero_le (a := n) (by omega)
  refine Ep.pos (by omega) (Ep.pos (by simp; omega) (Ep.bind0 rfl ?_))
  have := implFull_l0 m es q (by omega) hG1.2.2.1 m 0 (List.replicate m 0) (by omega) (by simp) (fun j hj => by omega) (fun j _ hj => by simp [hj])
  simpa using this
 ·unfold fullP
  rw [if_neg (fun x => h (by rw [x.1]; simpa using x.2))]
theorem repL_take {n i : Nat} (f : Int → Int) (h : i < n) : (repL n f).take (i + 1) = (repL n f).take i ++ [f (i : Int)] := by
 unfold repL
 exact map_take_succ (fun j : Nat => f (j : Int)) n i h
theorem repL_congr {n : Nat} {f g : Int → Int} (h : ∀ w : Int, 0 ≤ w → w < n → f w = g w) : repL n f = repL n g := ((repL_rep n f).congr h).eq
def plusL (a b : List Int) : List Int := repL a.length fun w => rd a w + rd b w
def minL (a b : List Int) : List Int := repL a.length fun w => rd a w - rd b w
def negL (a : List Int) : List Int := repL a.length fun w => - rd a w
theorem plus_neg {a b : List Int} (h : a.length = b.length) : plusL a (negL b) = minL a b := by
 unfold plusL minL
 refine repL_congr fun w h0 h1 => ?_
 have : rd (negL b) w = - rd b w := (repL_rep b.length _).2 w h0 (by omega)
 rw [this]
 omega
theorem implPlus_l0 (a b : List Int) (n : Nat) (hn : n ≤ 1048576) (ha : a.length = n) (hb : b.length = n) (ba : Bd a 1000000000) (bb : Bd b 1000000000) : ∀ (d i : Nat) (x : List Int), i + d = n → Rep n x (fun w => if w < i then rd a w + rd b w else rd a w) → Ep (fun k => impl_plus.l0 k b x (n : Int) (i : Int)) (· = plusL a b) := by
 intro d
 induction d with
 | zero =>
  intro i x hi hx
  obtain rfl : i = n := by omega
  refine Ep.up ?_
  simp only [impl_plus.l0]
  refine Ep.neg (by omega) (Ep.now ?_)
  unfold plusL
  rw [ha]
  exact (hx.congr fun w _ w1 => by rw [if_pos w1]).eq
 | succ d ih =>
  intro i x hi hx
  have hxl := hx.1
  have h1 := ba i (by omega) (by omega)
  have h2 := bb i (by omega) (by omega)
  have hxi : rd x (i : Int) = rd a (i : Int) := by
   have h9 := hx.2 i (by omega) (by omega)
   simp only [if_neg (show ¬ (i : Int) < i by omega)] at h9
   exact h9
  refine Ep.up ?_
  simp only [impl_plus.l0]
  refine Ep.pos (by omega) (Ep.pos (by omega) (Ep.pos (by omega) (Ep.pos (by omega) ?_)))
  rw [wrap_succ (by omega), hxi, wrap_id (by omega) (by omega)]
  refine ih (i + 1) _ (by omega) ((hx.set (v := (i : Int)) (by omega) (by omega) _).congr fun w _ _ => ?_)
  by_cases e : w = i
  ·rw [if_pos e, if_pos (by omega), e]
  ·rw [if_neg e]
   by_cases e2 : w < i
   ·rw [if_pos e2, if_pos (by omega)]
   ·rw [if_neg e2, if_neg (by omega)]
theorem implPlus (a b : List Int) (hl : a.length ≤ 1048576) (hab : a.length = b.length) (ba : Bd a 1000000000) (bb : Bd b 1000000000) : Ep (fun k => impl_plus.f k a b) (· = plusL a b) := by
 simp only [impl_plus.f]
 refine Ep.bind0 (copy_eq a hl) ?_
 exact implPlus_l0 a b a.length hl rfl hab.symm ba bb a.length 0 a (by omega) ((Rep.self rfl).congr fun w w0 _ => by rw [if_neg (by omega)])
theorem specMinus_l0 (a b : List Int) (n : Nat) (hn : n ≤ 1048576) (ha : a.length = n) (hb : b.length = n) (ba : Bd a 1000000000) (bb : Bd b 1000000000) : ∀ (d i : Nat), i + d = n → Ep (fun k => spec_l07Minus.l0 k b ((minL a b).take i) a (n : Int) (i : Int)) (· = minL a b) := by
 intro d
 have hL : (minL a b).length = n := by simp [minL, repL_len, ha]
 induction d with
 | zero =>
  intro i hi
  refine Ep.up ?_
  simp only [spec_l07Minus.l0]
  refine Ep.neg (by omega) (Ep.now ?_)
  rw [List.take_of_length_le (by omega)]
 | succ d ih =>
  intro i hi
  have h1 := ba i (by omega) (by omega)
  have h2 := bb i (by omega) (by omega)
  have hlen : ((minL a b).take i).length < 17592186044416 := by rw [List.length_take]; omega
  have ih' := ih (i + 1) (by omega)
  have ht : (minL a b).take (i + 1) = (minL a b).take i ++ [rd a (i : Int) - rd b (i : Int)] := repL_take _ (by omega)
  rw [ht] at ih'
  refine Ep.up ?_
  simp only [spec_l07Minus.l0]
  rw [wrap_succ (by omega), wrap_id (x := rd a (i : Int) - rd b (i : Int)) (by omega) (by omega)]
  exact Ep.pos (by omega) (Ep.pos (by omega) (Ep.pos (by omega) (Ep.pos (by omega) (Ep.pos hlen ih'))))
theorem specMinus (a b : List Int) (hl : a.length ≤ 1048576) (hab : a.length = b.length) (ba : Bd a 1000000000) (bb : Bd b 1000000000) : Ep (fun k => spec_l07Minus.f k a b) (· = minL a b) := by
 simp only [spec_l07Minus.f]
 have := specMinus_l0 a b a.length hl rfl hab.symm ba bb a.length 0 (by omega)
 simpa using this
theorem implNeg_l0 (a : List Int) (n : Nat) (hn : n ≤ 1048576) (ha : a.length = n) (ba : Bd a 1000000000) : ∀ (d i : Nat) (x : List Int), i + d = n → Rep n x (fun w => if w < i then - rd a w else rd a w) → Ep (fun k => impl_NegateDivisor.l0 k x (n : Int) (i : Int)) (· = negL a) := by
 intro d
 induction d with
 | zero =>
  intro i x hi hx
  obtain rfl : i = n := by omega
  refine Ep.up ?_
  simp only [impl_NegateDivisor.l0]
  refine Ep.neg (by omega) (Ep.now ?_)
  unfold negL
  rw [ha]
  exact (hx.congr fun w _ w1 => by rw [if_pos w1]).eq
 | succ d ih =>
  intro i x hi hx
  have hxl := hx.1
  have h1 := ba i (by omega) (by omega)
  have hxi : rd x (i : Int) = rd a (i : Int) := by
   have h9 := hx.2 i (by omega) (by omega)
   simp only [if_neg (show ¬ (i : Int) < i by omega)] at h9
   exact h9
  refine Ep.up ?_
  simp only [impl_NegateDivisor.l0]
  refine Ep.pos (by omega) (Ep.pos (by omega) (Ep.pos (by omega) ?_))
  rw [wrap_succ (by omega), hxi, wrap_id (by omega) (by omega)]
  refine ih (i + 1) _ (by omega) ((hx.set (v := (i : Int)) (by omega) (by omega) _).congr fun w _ _ => ?_)
  by_cases e : w = i
  ·rw [if_pos e, if_pos (by omega), e]
  ·rw [if_neg e]
   by_cases e2 : w < i
   ·rw [if_pos e2, if_pos (by omega)]
   ·rw [if_neg e2, if_neg (by omega)]
theorem implNeg (a : List Int) (hl : a.length ≤ 1048576) (ba : Bd a 1000000000) : Ep (fun k => impl_NegateDivisor.f k a) (· = negL a) := by
 simp only [impl_NegateDivisor.f]
 refine Ep.bind0 (copy_eq a hl) ?_
 exact implNeg_l0 a a.length hl rfl ba a.length 0 a (by omega) ((Rep.self rfl).congr fun w w0 _ => by rw [if_neg (by omega)])
theorem negL_len (a : List Int) : (negL a).length = a.length := by simp [negL, repL_len]
theorem minL_len (a b : List Int) : (minL a b).length = a.length := by simp [minL, repL_len]
theorem negL_bd {a : List Int} {B : Int} (h : Bd a B) : Bd (negL a) B := (repL_rep a.length _).bd fun w h0 h1 => by have := h w h0 h1; omega
theorem minL_bd {a b : List Int} {A B : Int} (hab : a.length = b.length) (ha : Bd a A) (hb : Bd b B) : Bd (minL a b) (A + B) := (repL_rep a.length _).bd fun w h0 h1 => by have := ha w h0 h1; have := hb w h0 (by omega); omega
def lapRow (n : Nat) (es : List E) (r : Int) : List Int := repL n fun c => lapM es r c
def lapL (n : Nat) (es : List E) : List (List Int) := (List.range n).map fun r : Nat => lapRow n es (r : Int)
theorem lapL_len (n : Nat) (es : List E) : (lapL n es).length = n := by simp [lapL]
theorem lapM_bd {es : List E} (hel : es.length ≤ 12) (r c : Int) : -12 ≤ lapM es r c ∧ lapM es r c ≤ 12 := by
 have h1 := val_nonneg es r
 have h2 := val_le es r
 have h3 := mult_nonneg es r c
 have h4 := mult_le es r c
 unfold lapM
 split <;> omega
theorem implLap_l1 {n : Nat} {es : List E} (hes : ∀ e ∈ es, EOk n e) (hel : es.length ≤ 12) (hn : n ≤ 6) {M : List (List Int)} (hM : M.length ≤ 6) {v : Nat} (hv : v < n) {Q : List (List Int) → Prop}
  (hQ : Ep (fun k => impl_LaplacianOf.l0 k (M ++ [lapRow n es (v : Int)]) ((v + 1 : Nat) : Int) (n : Int) es) Q) : ∀ (d i : Nat) (x : List Int), i + d = n → Rep n x (fun w => if w < i then - mult es (v : Int) w else 0) →
  Ep (fun k => impl_LaplacianOf.l1 k M (v : Int) x (n : Int) (i : Int) (n : Int) es) Q := by
 intro d
 induction d with
 | zero =>
  intro i x hi hx
  refine Ep.up ?_
  simp only [impl_LaplacianOf.l1]
  refine Ep.neg (by omega) (Ep.bind (implValence _ es _ (by omega)) ?_)
  rintro _ rfl
  refine Ep.pos (by omega) (Ep.pos (by have := hx.1; omega) (Ep.pos (by omega) ?_))
  have e : x.set ((v : Int)).toNat (valG (n : Int) es (v : Int)) = lapRow n es (v : Int) := ((hx.set (v := (v : Int)) (by omega) (by omega) _).congr fun w w0 w1 => by
   unfold lapM
   by_cases c : w = v
   ·rw [if_pos c, if_pos c.symm, valG_in ⟨by omega, by omega⟩]
   ·rw [if_neg c, if_pos (by omega), if_neg (fun q => c q.symm)]).eq
  rw [e, wrap_succ (by omega)]
  exact hQ
 | succ d ih =>
  intro i x hi hx
  refine Ep.up ?_
  simp only [impl_LaplacianOf.l1]
  refine Ep.pos (by omega) (Ep.bind (implMult _ es hes hel _ _ ⟨by omega, by omega⟩ ⟨by omega, by omega⟩) ?_)
  rintro _ rfl
  have hm0 := mult_nonneg es (v : Int) (i : Int)
  have hm1 := mult_le es (v : Int) (i : Int)
  refine Ep.pos (by omega) (Ep.pos (by have := hx.1; omega) ?_)
  rw [wrap_id (by omega) (by omega), wrap_succ (by omega)]
  refine ih (i + 1) _ (by omega) ((hx.set (v := (i : Int)) (by omega) (by omega) _).congr fun w w0 w1 => ?_)
  by_cases c : w = i
  ·rw [if_pos c, if_pos (by omega), c]
  ·rw [if_neg c]
   by_cases c2 : w < i
   ·rw [if_pos c2, if_pos (by omega)]
   ·rw [if_neg c2, if_neg (by omega)]
theorem lapL_take {n : Nat} (es : List E) {v : Nat} (hv : v < n) : (lapL n es).take (v + 1) = (lapL n es).take v ++ [lapRow n es (v : Int)] := by
 rw [List.take_succ_eq_append_getElem (by rw [lapL_len]; exact hv)]
 simp [lapL]
theorem implLap_l0 {n : Nat} {es : List E} (hes : ∀ e ∈ es, EOk n e) (hel : es.length ≤ 12) (hn : n ≤ 6) : ∀ (d v : Nat), v + d = n → Ep (fun k => impl_LaplacianOf.l0 k ((lapL n es).take v) (v : Int) (n : Int) es) (· = lapL n es) := by
 intro d
 induction d with
 | zero =>
  intro v hv
  refine Ep.up ?_
  simp only [impl_LaplacianOf.l0]
  refine Ep.neg (by omega) (Ep.now ?_)
  rw [List.take_of_length_le (by rw [lapL_len]; omega)]
 | succ d ih =>
  intro v hv
  have h1 := ih (v + 1) (by omega)
  rw [lapL_take es (by omega)] at h1
  refine Ep.up ?_
  simp only [impl_LaplacianOf.l0]
  refine Ep.pos (by omega) (Ep.pos (by omega) (Ep.pos (by omega) (Ep.bind0 rfl ?_)))
  rw [Int.toNat_natCast, List.length_replicate]
  exact implLap_l1 hes hel hn (by rw [List.length_take]; omega) (by omega) h1 n 0 _ (by omega) ((Rep.zero n).congr fun w w0 w1 => by rw [if_neg (by omega)])
theorem implLap {n : Nat} {es : List E} (hg : GOk (n : Int) es) : Ep (fun k => impl_LaplacianOf.f k (n : Int) es) (· = lapL n es) := by
 have hG := hg.1
 unfold EsOk at hG
 simp only [impl_LaplacianOf.f]
 refine Ep.bind0 (implGraph _ _) ?_
 rw [gOk_iff.2 hg]
 refine Ep.pos rfl ?_
 have := implLap_l0 (n := n) hG.2.2.2 hG.2.2.1 (by omega) n 0 (by omega)
 simpa using this
def vsL (n q : Nat) : List Int := ((List.range n).eraseIdx q).map fun i : Nat => (i : Int)
theorem vsL_len {n q : Nat} (hq : q < n) : (vsL n q).length = n - 1 := by
 unfold vsL
 rw [List.length_map, List.length_eraseIdx, if_pos (by simpa using hq), List.length_range]
def redM (n : Nat) (es : List E) (q : Nat) : List (List Int) := (vsL n q).map fun r => (vsL n q).map fun c => lapM es r c
theorem redM_len {n q : Nat} (hq : q < n) (es : List E) : (redM n es q).length = n - 1 := by unfold redM; rw [List.length_map, vsL_len hq]
theorem keep_erase (q : Nat) (L : List (List Int)) : ∀ i, i ≤ L.length → keepF q L i = ((L.take i).eraseIdx q).map fun r => r.eraseIdx q
 | 0, _ => by simp [keepF]
 | i + 1, h => by
  have hi : i < L.length := by omega
  have ih := keep_erase q L i (by omega)
  unfold keepF
  have hl : (L.take i).length = i := by rw [List.length_take]; omega
  rw [List.take_succ_eq_append_getElem hi]
  by_cases c : i = q
  ·rw [if_pos c, ih, List.eraseIdx_append_of_length_le (by omega), hl, show q - i = 0 by omega, List.eraseIdx_of_length_le (l := L.take i) (by omega)]
   simp
  ·rw [if_neg c, ih]
   have hg : L.getD i [] = L[i] := by simp [List.getD, hi]
   rw [hg]
   by_cases d : q < i
   ·rw [List.eraseIdx_append_of_lt_length (by omega)]
    simp
   ·rw [List.eraseIdx_append_of_length_le (by omega), List.eraseIdx_of_length_le (l := L.take i) (by omega), List.eraseIdx_of_length_le (l := [L[i]]) (by simp; omega), List.map_append]
    rfl
theorem keep_red {n q : Nat} (es : List E) : keepF q (lapL n es) (lapL n es).length = redM n es q := by
 rw [keep_erase q _ _ (Nat.le_refl _), List.take_length]
 unfold lapL redM vsL lapRow repL
 rw [map_eraseIdx, List.map_map]
 show _ = (((List.range n).eraseIdx q).map fun i : Nat => (i : Int)).map _
 rw [List.map_map]
 refine List.map_congr_left fun r _ => ?_
 show ((List.range n).map fun c : Nat => lapM es (r : Int) (c : Int)).eraseIdx q = (((List.range n).eraseIdx q).map fun i : Nat => (i : Int)).map _
 rw [map_eraseIdx, List.map_map]
 rfl
theorem implRL {n : Nat} {es : List E} (hg : GOk (n : Int) es) {q : Nat} (hq : q < n) : Ep (fun k => impl_ReducedLaplacian.f k (n : Int) es (q : Int)) (· = redM n es q) := by
 have hG := hg.1
 unfold EsOk at hG
 simp only [impl_ReducedLaplacian.f]
 refine Ep.bind0 (isVertex_eq (n : Int) es _ (by simp [Wf, Lit.wf, IntKind.min, IntKind.max, IntKind.signed, IntKind.bits]; omega)) ?_
 refine Ep.pos (by rw [gOk_iff.2 hg]; simp; omega) ?_
 refine Ep.bind (implLap hg) ?_
 rintro _ rfl
 have e : redF (q : Int) (lapL n es) = some (redM n es q) := by
  unfold redF
  rw [if_pos, Int.toNat_natCast, keep_red]
  refine ⟨by omega, by omega, by rw [lapL_len]; omega, fun r hr => ?_⟩
  unfold lapL at hr
  obtain ⟨i, _, rfl⟩ := List.mem_map.1 hr
  unfold lapRow
  rw [repL_len]
  omega
 exact Ep.congr (fun _ => e) (Ep.now rfl)
def SqOk (m : Nat) (M : List (List Int)) : Prop := M.length = m ∧ (∀ r ∈ M, r.length = m) ∧ ∀ r ∈ M, ∀ x ∈ r, -12 ≤ x ∧ x ≤ 12
theorem rd_bd {l : List Int} (h : ∀ x ∈ l, -12 ≤ x ∧ x ≤ 12) (i : Int) : -12 ≤ rd l i ∧ rd l i ≤ 12 := by
 unfold rd
 by_cases c : i.toNat < l.length
 ·rw [List.getD_eq_getElem?_getD, List.getElem?_eq_getElem c]
  exact h _ (List.getElem_mem c)
 ·rw [List.getD_eq_getElem?_getD, List.getElem?_eq_none (by omega)]
  simp
theorem SqOk.ent {m : Nat} {M : List (List Int)} (h : SqOk m M) (r c : Int) : -12 ≤ ent M r c ∧ ent M r c ≤ 12 := by
 unfold Cf.ent
 by_cases d : r.toNat < M.length
 ·rw [List.getD_eq_getElem?_getD, List.getElem?_eq_getElem d]
  exact rd_bd (h.2.2 _ (List.getElem_mem d)) c
 ·rw [List.getD_eq_getElem?_getD, List.getElem?_eq_none (by omega)]
  simp [rd]
theorem det_bd {m : Nat} {M : List (List Int)} (h : SqOk m M) {rs cs : List Int} (hr : rs.length ≤ 5) (hc : cs.length ≤ 6) : -1934917632 ≤ detL M rs cs ∧ detL M rs cs ≤ 1934917632 := by
 have h1 := detL_bd (B := 12) (by omega) h.ent rs cs hc
 have h2 : ((6 * 12 : Int)) ^ rs.length ≤ 1934917632 := by
  match hl : rs.length, hr with
  | 0, _ => decide
  | 1, _ => decide
  | 2, _ => decide
  | 3, _ => decide
  | 4, _ => decide
  | 5, _ => decide
 omega
theorem alt_shift (n : Nat) (g : Nat → Int) (p : Nat) : alt (n + 1) (fun i => g (p + i)) = g p - alt n (fun i => g (p + 1 + i)) := by
 show g (p + 0) - _ = _
 rw [Nat.add_zero]
 congr 1
 exact alt_congr fun i _ => by show g (p + (i + 1)) = _; rw [show p + (i + 1) = p + 1 + i by omega]
theorem implDet_l0 {m : Nat} (hm : m ≤ 5) {M : List (List Int)} (hM : SqOk m M) {r : Int} {rs : List Int} (hr : 0 ≤ r ∧ r < m) (hrs : rs.length ≤ 4) {b : Nat} (hb : b < 2 ^ m)
  (ih : ∀ b' : Nat, b' < 2 ^ m → Ep (fun k => impl_determinant.f k M rs (b' : Int)) (· = detL M rs (bitsL b'))) :
  ∀ (d c : Nat) (s σ : Int), c + d = m → (σ = 1 ∨ σ = -1) → (-(c * 23219011584 : Int) ≤ s ∧ s ≤ c * 23219011584) →
   Ep (fun k => impl_determinant.l0 k M (r :: rs) (b : Int) s σ (rd_L3 M r) (m : Int) (c : Int))
    (· = s + σ * alt ((bitsL b).length - (bitsB b c).length) fun i => ent M r ((bitsL b).getD ((bitsB b c).length + i) 0) * detL M rs ((bitsL b).eraseIdx ((bitsB b c).length + i))) := by
 have h32 : (2 : Nat) ^ m ≤ 32 := by
  have := Nat.pow_le_pow_right (show 0 < 2 by omega) hm
  omega
 have hrow : (rd_L3 M r).length = m := by
  unfold rd_L3
  rw [List.getD_eq_getElem?_getD, List.getElem?_eq_getElem (by have := hM.1; omega)]
  exact hM.2.1 _ (List.getElem_mem _)
 intro d
 induction d with
 | zero =>
  intro c s σ hc hσ hs
  refine Ep.up ?_
  simp only [impl_determinant.l0]
  refine Ep.neg (by omega) (Ep.now ?_)
  have e := bm_all ⟨b, by omega⟩ ⟨c, by omega⟩ (by simp; rw [show c = m by omega]; exact hb)
  simp only at e
  rw [e, Nat.sub_self]
  simp [alt]
 | succ d ihd =>
  intro c s σ hc hσ hs
  refine Ep.up ?_
  simp only [impl_determinant.l0]
  refine Ep.pos (by omega) (Ep.pos (by omega) (Ep.pos (by omega) ?_))
  rw [wrap_succ (by omega)]
  have hsu := bitsB_succ b c
  rcases bm_val ⟨b, by omega⟩ ⟨c, by omega⟩ with ⟨b1, b2⟩ | ⟨b1, b2⟩
  ·simp only at b1 b2
   rw [if_pos b2] at hsu
   obtain ⟨m', e1, e2, e3, e4⟩ := bm_drop ⟨b, by omega⟩ ⟨c, by omega⟩ b2
   simp only at e1 e2 e3 e4
   have hp : (bitsB b c).length < (bitsL b).length := by
    rw [List.getElem?_eq_some_iff] at e3
    exact e3.1
   have hg : (bitsL b).getD (bitsB b c).length 0 = (c : Int) := by rw [List.getD_eq_getElem?_getD, e3]; rfl
   have hl1 : (bitsB b (c + 1)).length = (bitsB b c).length + 1 := by rw [hsu]; simp
   have hsplit : (bitsL b).length - (bitsB b c).length = ((bitsL b).length - (bitsB b (c + 1)).length) + 1 := by omega
   have hent : rd (rd_L3 M r) (c : Int) = ent M r (c : Int) := rfl
   have hbd := hM.ent r (c : Int)
   have hdb := det_bd hM (rs := rs) (cs := bitsL m'.val) (by omega) (by have := bitsB_len m'.val 6; exact this)
   rw [hsplit, alt_shift _ (fun i => ent M r ((bitsL b).getD i 0) * detL M rs ((bitsL b).eraseIdx i)), hg, ← e2, ← hl1]
   refine Ep.neg (by rw [b1]; omega) ?_
   rw [hent]
   by_cases hz : ent M r (c : Int) = 0
   ·refine Ep.pos hz ?_
    have hneg : wrap64 (-σ) = -σ := wrap_id (by omega) (by omega)
    rw [hneg]
    refine (ihd (c + 1) s (-σ) (by omega) (by omega) (by omega)).mono fun v hv => ?_
    rw [hv, hz, Int.zero_mul, Int.zero_sub, Int.mul_neg, Int.neg_mul]
   ·refine Ep.neg hz (Ep.pos (by rw [List.length_cons]; omega) ?_)
    rw [e1]
    refine Ep.bind (ih m'.val (by omega)) ?_
    rintro _ rfl
    have hneg : wrap64 (-σ) = -σ := wrap_id (by omega) (by omega)
    have hprod := mul_bd hbd hdb
    have e5 : wrap64 (σ * ent M r (c : Int)) = σ * ent M r (c : Int) := by
     rcases hσ with rfl | rfl
     ·exact wrap_id (by omega) (by omega)
     ·exact wrap_id (by omega) (by omega)
    have e6 : σ * ent M r (c : Int) * detL M rs (bitsL m'.val) = σ * (ent M r (c : Int) * detL M rs (bitsL m'.val)) := Int.mul_assoc _ _ _
    have hb2 : -(23219011584 : Int) ≤ σ * (ent M r (c : Int) * detL M rs (bitsL m'.val)) ∧ σ * (ent M r (c : Int) * detL M rs (bitsL m'.val)) ≤ 23219011584 := by
     rcases hσ with rfl | rfl <;> omega
    rw [e5, e6]
    have e7 : wrap64 (σ * (ent M r (c : Int) * detL M rs (bitsL m'.val))) = σ * (ent M r (c : Int) * detL M rs (bitsL m'.val)) := wrap_id (by omega) (by omega)
    have e8 : wrap64 (s + σ * (ent M r (c : Int) * detL M rs (bitsL m'.val))) = s + σ * (ent M r (c : Int) * detL M rs (bitsL m'.val)) := wrap_id (by omega) (by omega)
    rw [e7, e8, hneg]
    refine (ihd (c + 1) _ (-σ) (by omega) (by omega) (by omega)).mono fun v hv => ?_
    rw [hv, Int.mul_sub, Int.neg_mul]
    omega
  ·simp only at b1 b2
   have b2' : ¬ b.testBit c = true := by simpa using b2
   rw [if_neg b2', List.append_nil] at hsu
   refine Ep.pos b1 ?_
   have h := ihd (c + 1) s σ (by omega) hσ (by omega)
   rw [hsu] at h
   exact h
theorem implDet {m : Nat} (hm : m ≤ 5) {M : List (List Int)} (hM : SqOk m M) : ∀ (rs : List Int), rs.length ≤ 5 → (∀ r ∈ rs, 0 ≤ r ∧ r < (m : Int)) → ∀ b : Nat, b < 2 ^ m → Ep (fun k => impl_determinant.f k M rs (b : Int)) (· = detL M rs (bitsL b))
 | [], _, _, b, _ => by
  refine Ep.up ?_
  simp only [impl_determinant.f]
  exact Ep.pos rfl (Ep.now rfl)
 | r :: rs, hl, hr, b, hb => by
  have hr0 := hr r List.mem_cons_self
  have hrow : (rd_L3 M r).length = m := by
   unfold rd_L3
   rw [List.getD_eq_getElem?_getD, List.getElem?_eq_getElem (by have := hM.1; omega)]
   exact hM.2.1 _ (List.getElem_mem _)
  have ih := implDet hm hM rs (by simp at hl; omega) (fun x hx => hr x (List.mem_cons_of_mem _ hx))
  refine Ep.up ?_
  simp only [impl_determinant.f]
  have e : rd (r :: rs) 0 = r := rfl
  refine Ep.neg (by rw [List.length_cons]; omega) (Ep.pos (by rw [List.length_cons]; omega) (Ep.pos (by rw [e]; exact hr0.1) (Ep.pos (by rw [e, hM.1]; exact hr0.2) ?_)))
  rw [e, hrow]
  refine (implDet_l0 hm hM hr0 (by simp at hl; omega) hb ih m 0 0 1 (by omega) (Or.inl rfl) (by omega)).mono fun v hv => ?_
  rw [hv, show (bitsB b 0).length = 0 from rfl]
  simp only [Nat.sub_zero, Nat.zero_add, Int.zero_add, Int.one_mul]
  rfl
theorem implMat_l0 {m : Nat} (hm : m ≤ 5) {M : List (List Int)} (hM : SqOk m M) : ∀ (d i : Nat), i + d = m → Ep (fun k => impl_MatrixOk.l0 k M M (m : Int) (i : Int)) (· = true) := by
 intro d
 induction d with
 | zero =>
  intro i hi
  refine Ep.up ?_
  simp only [impl_MatrixOk.l0]
  exact Ep.neg (by omega) (Ep.now rfl)
 | succ d ih =>
  intro i hi
  have hml := hM.1
  have hlt : i < M.length := by omega
  have e : rd_L3 M (i : Int) = M[i] := by
   unfold rd_L3
   rw [Int.toNat_natCast, List.getD_eq_getElem?_getD, List.getElem?_eq_getElem hlt]
   rfl
  have h1 := hM.2.1 _ (List.getElem_mem hlt)
  have h2 := hM.2.2 _ (List.getElem_mem hlt)
  refine Ep.up ?_
  simp only [impl_MatrixOk.l0]
  refine Ep.pos (by omega) (Ep.pos (by omega) (Ep.pos (by omega) (Ep.pos (by rw [e]; omega) ?_)))
  rw [e]
  refine Ep.bind (allWithin_ok _ _ _ (by omega)) ?_
  rintro _ rfl
  refine Ep.pos (decide_eq_true fun x hx => by have := h2 x hx; omega) ?_
  rw [wrap_succ (by omega)]
  exact ih (i + 1) (by omega)
theorem implMatrixOk {m : Nat} (hm : m ≤ 5) {M : List (List Int)} (hM : SqOk m M) : Ep (fun k => impl_MatrixOk.f k M) (· = true) := by
 simp only [impl_MatrixOk.f]
 have hml := hM.1
 refine Ep.neg (by omega) ?_
 rw [hml]
 exact implMat_l0 hm hM m 0 (by omega)
def upTo (m : Nat) : List Int := (List.range m).map fun j : Nat => (j : Int)
theorem implDeterminant {m : Nat} (hm : m ≤ 5) {M : List (List Int)} (hM : SqOk m M) : Ep (fun k => impl_Determinant.f k M) (· = detL M (upTo m) (upTo m)) := by
 simp only [impl_Determinant.f]
 refine Ep.bind (implMatrixOk hm hM) ?_
 rintro _ rfl
 refine Ep.pos rfl ?_
 obtain ⟨h1, h2, h3, h4⟩ := bm_full (i := m) (by omega)
 rw [hM.1, h2]
 refine Ep.bind (implBits h4) ?_
 rintro _ rfl
 rw [h1]
 have hpos : 0 < 2 ^ m := Nat.pow_pos (by omega)
 refine Ep.bind (implDet hm hM _ (by simp; exact hm) (fun r hr => ?_) (2 ^ m - 1) (by omega)) ?_
 ·obtain ⟨j, hj, rfl⟩ := List.mem_map.1 hr
  have := List.mem_range.1 hj
  omega
 ·rintro _ rfl
  rw [h1]
  exact Ep.now rfl
theorem redM_sq {n q : Nat} (hq : q < n) {es : List E} (hel : es.length ≤ 12) : SqOk (n - 1) (redM n es q) := by
 refine ⟨redM_len hq es, fun r hr => ?_, fun r hr x hx => ?_⟩
 ·unfold redM at hr
  obtain ⟨v, _, rfl⟩ := List.mem_map.1 hr
  rw [List.length_map, vsL_len hq]
 ·unfold redM at hr
  obtain ⟨v, _, rfl⟩ := List.mem_map.1 hr
  obtain ⟨w, _, rfl⟩ := List.mem_map.1 hx
  exact lapM_bd hel _ _
def vAt (vs : List Int) (i : Int) : Int := vs.getD i.toNat 0
theorem redM_ent {n q : Nat} (hq : q < n) (es : List E) {r c : Int} (hr : 0 ≤ r ∧ r < ((n - 1 : Nat) : Int)) (hc : 0 ≤ c ∧ c < ((n - 1 : Nat) : Int)) : ent (redM n es q) r c = lapM es (vAt (vsL n q) r) (vAt (vsL n q) c) := by
 have hl := vsL_len hq
 unfold ent redM rd vAt
 rw [getD_map (fun r => (vsL n q).map fun c => lapM es r c) (vsL n q) r.toNat 0 [] (by omega), getD_map (fun c => lapM es _ c) (vsL n q) c.toNat 0 0 (by omega)]
theorem detL_detC {M : List (List Int)} {A : Int → Int → Int} {v : Int → Int} : ∀ (rs cs : List Int), (∀ r ∈ rs, ∀ c ∈ cs, ent M r c = A (v r) (v c)) → detL M rs cs = detC (rs.map v) (cs.map fun c r => A r (v c))
 | [], cs, _ => rfl
 | r :: rs, cs, h => by
  show (alt cs.length fun i => ent M r (cs.getD i 0) * detL M rs (cs.eraseIdx i)) = alt (cs.map fun c r => A r (v c)).length fun i => ((cs.map fun c r => A r (v c)).getD i z0) (v r) * detC (rs.map v) ((cs.map fun c r => A r (v c)).eraseIdx i)
  rw [List.length_map]
  refine alt_congr fun i hi => ?_
  rw [getD_map (fun c r => A r (v c)) cs i 0 z0 hi, map_eraseIdx, detL_detC rs (cs.eraseIdx i) fun r' hr' c hc => h r' (List.mem_cons_of_mem _ hr') c (List.mem_of_mem_eraseIdx hc), h r List.mem_cons_self _ (getD_mem 0 hi)]
theorem upTo_mem {m : Nat} {x : Int} : x ∈ upTo m ↔ 0 ≤ x ∧ x < m := by
 unfold upTo
 rw [List.mem_map]
 constructor
 ·rintro ⟨j, hj, rfl⟩
  have := List.mem_range.1 hj
  omega
 ·exact fun h => ⟨x.toNat, List.mem_range.2 (by omega), by omega⟩
theorem upTo_vAt (vs : List Int) : (upTo vs.length).map (vAt vs) = vs := by
 unfold upTo
 rw [List.map_map]
 refine List.ext_getElem (by simp) fun i h1 h2 => ?_
 simp [vAt, List.getD, h2]
theorem redM_det {n q : Nat} (hq : q < n) (es : List E) : detL (redM n es q) (upTo (n - 1)) (upTo (n - 1)) = dlap es (vsL n q) := by
 rw [detL_detC (A := lapM es) (v := vAt (vsL n q)) _ _ fun r hr c hc => redM_ent hq es (upTo_mem.1 hr) (upTo_mem.1 hc)]
 unfold dlap
 have e := upTo_vAt (vsL n q)
 rw [vsL_len hq] at e
 have e2 : (upTo (n - 1)).map (fun (c r : Int) => lapM es r (vAt (vsL n q) c)) = ((upTo (n - 1)).map (vAt (vsL n q))).map fun c r => lapM es r c := by rw [List.map_map]; rfl
 rw [e2, e]
theorem implCountTrees {n : Nat} {es : List E} (hg : GOk (n : Int) es) : Ep (fun k => impl_CountTrees.f k (n : Int) es) (· = dlap es (vsL n 0)) := by
 have hG := hg.1
 unfold EsOk at hG
 simp only [impl_CountTrees.f]
 refine Ep.bind0 (implGraph _ _) ?_
 rw [gOk_iff.2 hg]
 refine Ep.pos rfl (Ep.bind (implRL hg (q := 0) (by omega)) ?_)
 rintro _ rfl
 refine Ep.bind (implDeterminant (by omega) (redM_sq (q := 0) (by omega) hG.2.2.1)) ?_
 rintro _ rfl
 rw [redM_det (by omega)]
 exact Ep.now rfl
end Go.Proofs.Ytnbljcgdgblgoaa.Cf
end

section
namespace Go.Proofs.Ytnbljcgdgblgoaa.Cf
set_option linter.unusedVariables false
set_option linter.unusedSimpArgs false
def fstS (s : List Int) : Nat := if s.length = 0 then 0 else (s.getD (s.length - 1) 0).toNat + 1
def extS (s : List Int) (j : Nat) : List (List Int) := (List.range (j - fstS s)).map fun d => s ++ [((fstS s + d : Nat) : Int)]
def setsN (n : Nat) : Nat → List (List Int)
 | 0 => [[]]
 | k + 1 => (setsN n k).flatMap fun s => extS s n
end Go.Proofs.Ytnbljcgdgblgoaa.Cf
end

section
namespace Go.Proofs.Ytnbljcgdgblgoaa.P
open Go.RowKit Go.Proofs.YtnbljcgdgblgoaaW.PrintWords Go.Proofs.YtnbljcgdgblgoaaW.PrintLast Go.Proofs.YtnbljcgdgblgoaaW.PrintMore
attribute [local go_sem] max2_int min2_int max_two min_two max_three min_three max_four min_four
set_option linter.unusedVariables false
set_option linter.unusedSimpArgs false
def spec_l03Sets.f (a0 a1 : Int) : Option (List (List Int)) := if 0 ≤ a0 ∧ a0 ≤ 12 ∧ 0 ≤ a1 ∧ a1 ≤ 6 then some (Cf.setsN a0.toNat a1.toNat) else none
end Go.Proofs.Ytnbljcgdgblgoaa.P
end

section
namespace Go.Proofs.Ytnbljcgdgblgoaa.Cf
set_option linter.unusedVariables false
set_option linter.unusedSimpArgs false
open Go.RowKit Go.Proofs.YtnbljcgdgblgoaaW.PrintWords Go.Proofs.Ytnbljcgdgblgoaa.P
theorem lapRow_take {n : Nat} (es : List E) (a : Int) {v : Nat} (hv : v < n) : (lapRow n es a).take (v + 1) = (lapRow n es a).take v ++ [lapM es a (v : Int)] := by
 rw [List.take_succ_eq_append_getElem (by unfold lapRow; rw [repL_len]; exact hv)]
 unfold lapRow repL
 simp
theorem lapRow_len (n : Nat) (es : List E) (a : Int) : (lapRow n es a).length = n := by unfold lapRow; rw [repL_len]
theorem specLap_l1 {n : Nat} {es : List E} (hes : ∀ e ∈ es, EOk n e) (hel : es.length ≤ 12) (hn : n ≤ 6) {M : List (List Int)} (hM : M.length ≤ 6) {v : Nat} (hv : v < n) {Q : List (List Int) → Prop}
  (hQ : Ep (fun k => spec_LaplacianOf.l0 k (M ++ [lapRow n es (v : Int)]) ((v + 1 : Nat) : Int) (n : Int) es) Q) : ∀ (d i : Nat), i + d = n →
  Ep (fun k => spec_LaplacianOf.l1 k M (v : Int) ((lapRow n es (v : Int)).take i) (i : Int) (n : Int) es) Q := by
 intro d
 induction d with
 | zero =>
  intro i hi
  refine Ep.up ?_
  simp only [spec_LaplacianOf.l1]
  refine Ep.neg (by omega) (Ep.pos (by omega) ?_)
  rw [wrap_succ (by omega), List.take_of_length_le (by rw [lapRow_len]; omega)]
  exact hQ
 | succ d ih =>
  intro i hi
  have h := ih (i + 1) (by omega)
  rw [lapRow_take es _ (by omega)] at h
  have hl : ((lapRow n es (v : Int)).take i).length ≤ 6 := by rw [List.length_take, lapRow_len]; omega
  refine Ep.up ?_
  simp only [spec_LaplacianOf.l1]
  refine Ep.pos (by omega) ?_
  rw [wrap_succ (by omega)]
  by_cases c : v = i
  ·refine Ep.pos (by omega) (Ep.bind (specValence _ es _ (by omega)) ?_)
   rintro _ rfl
   refine Ep.pos (by omega) ?_
   rw [valG_in ⟨by omega, by omega⟩]
   have e : lapM es (v : Int) (i : Int) = val es (v : Int) := by
    unfold lapM
    rw [if_pos (by omega)]
   rw [e] at h
   exact h
  ·refine Ep.neg (by omega) (Ep.bind (specMult _ es hes hel _ _ ⟨by omega, by omega⟩ ⟨by omega, by omega⟩) ?_)
   rintro _ rfl
   have hm0 := mult_nonneg es (v : Int) (i : Int)
   have hm1 := mult_le es (v : Int) (i : Int)
   refine Ep.pos (by omega) ?_
   have e : lapM es (v : Int) (i : Int) = - mult es (v : Int) (i : Int) := by
    unfold lapM
    rw [if_neg (by omega)]
   rw [e] at h
   rw [wrap_id (by omega) (by omega)]
   exact h
theorem specLap_l0 {n : Nat} {es : List E} (hes : ∀ e ∈ es, EOk n e) (hel : es.length ≤ 12) (hn : n ≤ 6) : ∀ (d v : Nat), v + d = n → Ep (fun k => spec_LaplacianOf.l0 k ((lapL n es).take v) (v : Int) (n : Int) es) (· = lapL n es) := by
 intro d
 induction d with
 | zero =>
  intro v hv
  refine Ep.up ?_
  simp only [spec_LaplacianOf.l0]
  refine Ep.neg (by omega) (Ep.now ?_)
  rw [List.take_of_length_le (by rw [lapL_len]; omega)]
 | succ d ih =>
  intro v hv
  have h1 := ih (v + 1) (by omega)
  rw [lapL_take es (by omega)] at h1
  refine Ep.up ?_
  simp only [spec_LaplacianOf.l0]
  refine Ep.pos (by omega) ?_
  exact specLap_l1 hes hel hn (by rw [List.length_take]; omega) (by omega) h1 n 0 (by omega)
theorem specLap {n : Nat} {es : List E} (hg : GOk (n : Int) es) : Ep (fun k => spec_LaplacianOf.f k (n : Int) es) (· = lapL n es) := by
 have hG := hg.1
 unfold EsOk at hG
 simp only [spec_LaplacianOf.f]
 refine Ep.bind (specGraph _ _) ?_
 rintro _ rfl
 refine Ep.pos (gOk_iff.2 hg) ?_
 have := specLap_l0 (n := n) hG.2.2.2 hG.2.2.1 (by omega) n 0 (by omega)
 simpa using this
theorem specRL {n : Nat} {es : List E} (hg : GOk (n : Int) es) {q : Nat} (hq : q < n) : Ep (fun k => spec_ReducedLaplacian.f k (n : Int) es (q : Int)) (· = redM n es q) := by
 have hG := hg.1
 unfold EsOk at hG
 simp only [spec_ReducedLaplacian.f]
 refine Ep.bind (specGraph _ _) ?_
 rintro _ rfl
 refine Ep.pos (gOk_iff.2 hg) ?_
 rw [wrap_id (x := (n : Int) - 1) (by omega) (by omega)]
 refine Ep.bind0 (l01In_eq _ _ _) ?_
 refine Ep.pos (by simp; omega) ?_
 refine Ep.bind (specLap hg) ?_
 rintro _ rfl
 have hr : ∀ r ∈ lapL n es, r.length = n := fun r hr => by
  unfold lapL at hr
  obtain ⟨i, _, rfl⟩ := List.mem_map.1 hr
  exact lapRow_len n es _
 refine Ep.pos (fun r h => by rw [hr r h]; omega) ?_
 have e : redF (q : Int) (lapL n es) = some (redM n es q) := by
  unfold redF
  rw [if_pos, Int.toNat_natCast, keep_red]
  exact ⟨by omega, by omega, by rw [lapL_len]; omega, fun r h => by rw [hr r h]; omega⟩
 exact Ep.congr (fun _ => e) (Ep.now rfl)
theorem row_at {m : Nat} {M : List (List Int)} (hM : SqOk m M) {i : Nat} (hi : i < m) : rd_L3 M (i : Int) ∈ M := by
 unfold rd_L3
 rw [Int.toNat_natCast, List.getD_eq_getElem?_getD, List.getElem?_eq_getElem (by have := hM.1; omega)]
 exact List.getElem_mem _
theorem specMat_l1 {m : Nat} (hm : m ≤ 5) {M : List (List Int)} (hM : SqOk m M) {i : Nat} (hi : i < m) {r : List Int} (hr : r ∈ M) (hn : Ep (fun k => spec_MatrixOk.l0 k M M (m : Int) ((i + 1 : Nat) : Int)) (· = true)) :
  ∀ (d j : Nat), j + d = m → Ep (fun k => spec_MatrixOk.l1 k M M (m : Int) (i : Int) r (m : Int) (j : Int)) (· = true) := by
 have hl := hM.2.1 r hr
 intro d
 induction d with
 | zero =>
  intro j hj
  refine Ep.up ?_
  simp only [spec_MatrixOk.l1]
  refine Ep.neg (by omega) ?_
  rw [wrap_succ (by omega)]
  exact hn
 | succ d ih =>
  intro j hj
  have hb := rd_bd (hM.2.2 r hr) (j : Int)
  refine Ep.up ?_
  simp only [spec_MatrixOk.l1]
  refine Ep.pos (by omega) (Ep.pos (by omega) (Ep.pos (by omega) (Ep.bind0 (l01In_eq _ _ _) (Ep.pos (by simp; omega) ?_))))
  rw [wrap_succ (by omega)]
  exact ih (j + 1) (by omega)
theorem specMat_l0 {m : Nat} (hm : m ≤ 5) {M : List (List Int)} (hM : SqOk m M) : ∀ (d i : Nat), i + d = m → Ep (fun k => spec_MatrixOk.l0 k M M (m : Int) (i : Int)) (· = true) := by
 have hM1 := hM.1
 intro d
 induction d with
 | zero =>
  intro i hi
  refine Ep.up ?_
  simp only [spec_MatrixOk.l0]
  exact Ep.neg (by omega) (Ep.now rfl)
 | succ d ih =>
  intro i hi
  have hr := row_at hM (i := i) (by omega)
  have hl := hM.2.1 _ hr
  refine Ep.up ?_
  simp only [spec_MatrixOk.l0]
  refine Ep.pos (by omega) (Ep.pos (by omega) (Ep.pos (by omega) (Ep.pos (by omega) ?_)))
  rw [hl]
  exact specMat_l1 hm hM (by omega) hr (ih (i + 1) (by omega)) m 0 (by omega)
theorem specMatrixOk {m : Nat} (hm : m ≤ 5) {M : List (List Int)} (hM : SqOk m M) : Ep (fun k => spec_MatrixOk.f k M) (· = true) := by
 have hM1 := hM.1
 simp only [spec_MatrixOk.f]
 refine Ep.neg (by omega) ?_
 rw [hM1]
 exact specMat_l0 hm hM m 0 (by omega)
theorem specDet_l0 {m : Nat} (hm : m ≤ 5) {M : List (List Int)} (hM : SqOk m M) {r : Int} {rs : List Int} (hr : 0 ≤ r ∧ r < m) (hrs : rs.length ≤ 4) {cs : List Int} (hcs : cs.length ≤ 6) (hc : ∀ c ∈ cs, 0 ≤ c ∧ c < (m : Int))
  (ih : ∀ cs' : List Int, cs'.length ≤ 6 → (∀ c ∈ cs', 0 ≤ c ∧ c < (m : Int)) → Ep (fun k => spec_l03Det.f k M rs cs') (· = detL M rs cs')) :
  ∀ (d p : Nat) (s σ : Int), p + d = cs.length → (σ = 1 ∨ σ = -1) → (-(p * 23219011584 : Int) ≤ s ∧ s ≤ p * 23219011584) →
   Ep (fun k => spec_l03Det.l0 k M (r :: rs) cs s σ cs (cs.length : Int) (p : Int))
    (· = s + σ * alt (cs.length - p) fun i => ent M r (cs.getD (p + i) 0) * detL M rs (cs.eraseIdx (p + i))) := by
 have hM1 := hM.1
 have hrow : (rd_L3 M r).length = m := by
  unfold rd_L3
  rw [List.getD_eq_getElem?_getD, List.getElem?_eq_getElem (by have := hM.1; omega)]
  exact hM.2.1 _ (List.getElem_mem _)
 intro d
 induction d with
 | zero =>
  intro p s σ hp hσ hs
  refine Ep.up ?_
  simp only [spec_l03Det.l0]
  refine Ep.neg (by omega) (Ep.now ?_)
  rw [show cs.length - p = 0 by omega]
  simp [alt]
 | succ d ihd =>
  intro p s σ hp hσ hs
  have hlt : p < cs.length := by omega
  have e0 : rd (r :: rs) 0 = r := rfl
  have ec : rd cs (p : Int) = cs[p] := by
   rw [rd_nat, List.getD_eq_getElem?_getD, List.getElem?_eq_getElem hlt]
   rfl
  have hcp := hc _ (List.getElem_mem hlt)
  have eg : cs.getD p 0 = cs[p] := by
   rw [List.getD_eq_getElem?_getD, List.getElem?_eq_getElem hlt]
   rfl
  have hent : rd (rd_L3 M r) (cs[p]) = ent M r (cs.getD p 0) := by rw [eg]; rfl
  have hbd := hM.ent r (cs.getD p 0)
  have hle : (cs.eraseIdx p).length ≤ 6 := by rw [List.length_eraseIdx]; split <;> omega
  have hdb := det_bd hM (rs := rs) (cs := cs.eraseIdx p) (by omega) hle
  have hsplit : cs.length - p = (cs.length - (p + 1)) + 1 := by omega
  have hneg : wrap64 (-σ) = -σ := wrap_id (by omega) (by omega)
  refine Ep.up ?_
  simp only [spec_l03Det.l0]
  rw [e0, ec, hent, hneg, wrap_succ (by omega)]
  refine Ep.pos (by omega) (Ep.pos (by omega) (Ep.pos (by omega) (Ep.pos (by rw [List.length_cons]; omega) (Ep.pos (by omega) (Ep.pos (by omega) (Ep.pos (by omega) (Ep.pos (by omega) ?_)))))))
  rw [hsplit, alt_shift _ (fun i => ent M r (cs.getD i 0) * detL M rs (cs.eraseIdx i))]
  by_cases hz : ent M r (cs.getD p 0) = 0
  ·refine Ep.pos hz ?_
   refine (ihd (p + 1) s (-σ) (by omega) (by omega) (by omega)).mono fun v hv => ?_
   rw [hv, hz, Int.zero_mul, Int.zero_sub, Int.mul_neg, Int.neg_mul]
  ·refine Ep.neg hz (Ep.bind0 rfl (Ep.pos (by omega) (Ep.pos (by simp only [List.length_nil, List.length_take]; omega) (Ep.bind0 rfl (Ep.pos (by omega) (Ep.pos (by omega) (Ep.pos (by simp only [List.nil_append, List.length_take, List.length_drop]; omega) (Ep.pos (by rw [List.length_cons]; omega) ?_))))))))
   rw [List.nil_append, Int.toNat_natCast, Int.toNat_natCast, ← List.eraseIdx_eq_take_drop_succ, show (r :: rs).drop 1 = rs from rfl]
   refine Ep.bind (ih _ hle fun c h => hc c (List.mem_of_mem_eraseIdx h)) ?_
   rintro _ rfl
   have hprod := mul_bd hbd hdb
   have e5 : wrap64 (σ * ent M r (cs.getD p 0)) = σ * ent M r (cs.getD p 0) := by
    rcases hσ with rfl | rfl
    ·exact wrap_id (by omega) (by omega)
    ·exact wrap_id (by omega) (by omega)
   have e6 : σ * ent M r (cs.getD p 0) * detL M rs (cs.eraseIdx p) = σ * (ent M r (cs.getD p 0) * detL M rs (cs.eraseIdx p)) := Int.mul_assoc _ _ _
   have hb2 : -(23219011584 : Int) ≤ σ * (ent M r (cs.getD p 0) * detL M rs (cs.eraseIdx p)) ∧ σ * (ent M r (cs.getD p 0) * detL M rs (cs.eraseIdx p)) ≤ 23219011584 := by
    rcases hσ with rfl | rfl <;> omega
   rw [e5, e6]
   have e7 : wrap64 (σ * (ent M r (cs.getD p 0) * detL M rs (cs.eraseIdx p))) = σ * (ent M r (cs.getD p 0) * detL M rs (cs.eraseIdx p)) := wrap_id (by omega) (by omega)
   have e8 : wrap64 (s + σ * (ent M r (cs.getD p 0) * detL M rs (cs.eraseIdx p))) = s + σ * (ent M r (cs.getD p 0) * detL M rs (cs.eraseIdx p)) := wrap_id (by omega) (by omega)
   rw [e7, e8]
   refine (ihd (p + 1) _ (-σ) (by omega) (by omega) (by omega)).mono fun v hv => ?_
   rw [hv, Int.mul_sub, Int.neg_mul]
   omega
theorem specDet {m : Nat} (hm : m ≤ 5) {M : List (List Int)} (hM : SqOk m M) : ∀ (rs : List Int), rs.length ≤ 5 → (∀ r ∈ rs, 0 ≤ r ∧ r < (m : Int)) → ∀ cs : List Int, cs.length ≤ 6 → (∀ c ∈ cs, 0 ≤ c ∧ c < (m : Int)) → Ep (fun k => spec_l03Det.f k M rs cs) (· = detL M rs cs)
 | [], _, _, cs, _, _ => by
  refine Ep.up ?_
  simp only [spec_l03Det.f]
  exact Ep.pos rfl (Ep.now rfl)
 | r :: rs, hl, hr, cs, hcl, hc => by
  have hr0 := hr r List.mem_cons_self
  have ih := specDet hm hM rs (by simp at hl; omega) (fun x hx => hr x (List.mem_cons_of_mem _ hx))
  refine Ep.up ?_
  simp only [spec_l03Det.f]
  refine Ep.neg (by rw [List.length_cons]; omega) ?_
  refine (specDet_l0 hm hM hr0 (by simp at hl; omega) hcl hc ih cs.length 0 0 1 (by omega) (Or.inl rfl) (by omega)).mono fun v hv => ?_
  rw [hv]
  simp only [Nat.sub_zero, Nat.zero_add, Int.zero_add, Int.one_mul]
  rfl
end Go.Proofs.Ytnbljcgdgblgoaa.Cf
end

section
namespace Go.Proofs.Ytnbljcgdgblgoaa.P
open Go.RowKit Go.Proofs.YtnbljcgdgblgoaaW.PrintWords Go.Proofs.YtnbljcgdgblgoaaW.PrintLast Go.Proofs.YtnbljcgdgblgoaaW.PrintMore
attribute [local go_sem] max2_int min2_int max_two min_two max_three min_three max_four min_four
set_option linter.unusedVariables false
set_option linter.unusedSimpArgs false
def impl_edgesOf.l0 : Nat → List (S57) → List Int → Int → Int → Int → List (S57) → Option ((List (S57)))
 | 0, _, _, _, _, _, _ => none
 | k + 1, x5, x8, x9, fF, aJ, aI => if fF < x9 then (if 0 ≤ fF then (if fF < (x8.length : Int) then (if 0 ≤ (rd x8 fF) then (if (rd x8 fF) < (aI.length : Int) then (if x5.length < 8796093022208 then (impl_edgesOf.l0 k (x5 ++ [(⟨(rd_T57 aI (rd x8 fF)).f0, (rd_T57 aI (rd x8 fF)).f1⟩ : S57)]) x8 x9 (wrap64 (fF + 1)) aJ aI) else (none)) else (none)) else (none)) else (none)) else (none)) else (some x5)
def impl_edgesOf.f (k : Nat) (aD : Int) (aC : List (S57)) (l1 : List Int) : Option ((List (S57))) := impl_edgesOf.l0 k ([] : List (S57)) l1 (l1.length : Int) 0 aD aC
theorem impl_edgesOf.mono_l : ∀ k, (∀ y0 y1 y2 y3 y4 y5, LeO (impl_edgesOf.l0 k y0 y1 y2 y3 y4 y5) (impl_edgesOf.l0 (k + 1) y0 y1 y2 y3 y4 y5))
 | 0 => fun _ _ _ _ _ _ r h => by simp [impl_edgesOf.l0] at h
 | k + 1 => by
  have ih0 := impl_edgesOf.mono_l k
  ·intro y0 y1 y2 y3 y4 y5
   unfold impl_edgesOf.l0
   exact zm0
theorem impl_edgesOf.mono : ∀ a0 a1 a2 k, LeO (impl_edgesOf.f k a0 a1 a2) (impl_edgesOf.f (k + 1) a0 a1 a2) := by
 intro a0 a1 a2 k; have ih0 := impl_edgesOf.mono_l k; unfold impl_edgesOf.f; exact zm0
mutual
def impl_IsTree.j0 : Nat → List Int → Bool → Int → List (S57) → Option (Bool)
 | 0, _, _, _, _ => none
 | k + 1, x1, nN, aJ, aI => if nN = true then (some false) else (impl_IsTree.l0 k x1 1 aJ aI)
def impl_IsTree.l0 : Nat → List Int → Int → Int → List (S57) → Option (Bool)
 | 0, _, _, _, _ => none
 | k + 1, x1, x5, aJ, aI => if x5 < (x1.length : Int) then (if 0 ≤ (wrap64 (x5 - 1)) then (if (wrap64 (x5 - 1)) < (x1.length : Int) then (if 0 ≤ x5 then (if (rd x1 (wrap64 (x5 - 1))) ≥ (rd x1 x5) then (some false) else (impl_IsTree.l0 k x1 (wrap64 (x5 + 1)) aJ aI)) else (none)) else (none)) else (none)) else ((impl_edgesOf.f k aJ aI x1).bind fun cK => ((impl_connected.f k aJ cK).bind fun pA => (some pA)))
end
def impl_IsTree.f (k : Nat) (aD : Int) (aC : List (S57)) (l1 : List Int) : Option (Bool) := (impl_GraphOk.f aD aC).bind fun aQ => (if aQ = true then (if (l1.length : Int) = (wrap64 (aD - 1)) then ((impl_allWithin.f k l1 0 (wrap64 ((aC.length : Int) - 1))).bind fun bQ => (impl_IsTree.j0 k l1 (!bQ) aD aC)) else (impl_IsTree.j0 k l1 true aD aC)) else (impl_IsTree.j0 k l1 true aD aC))
theorem impl_IsTree.mono_l : ∀ k, (∀ y0 y1 y2 y3, LeO (impl_IsTree.j0 k y0 y1 y2 y3) (impl_IsTree.j0 (k + 1) y0 y1 y2 y3)) ∧ (∀ y0 y1 y2 y3, LeO (impl_IsTree.l0 k y0 y1 y2 y3) (impl_IsTree.l0 (k + 1) y0 y1 y2 y3))
 | 0 => ⟨fun _ _ _ _ r h => by simp [impl_IsTree.j0] at h, fun _ _ _ _ r h => by simp [impl_IsTree.l0] at h⟩
 | k + 1 => by
  obtain ⟨ih0, ih1⟩ := impl_IsTree.mono_l k
  refine ⟨?_, ?_⟩
  ·intro y0 y1 y2 y3
   unfold impl_IsTree.j0
   exact zm7
  ·intro y0 y1 y2 y3
   unfold impl_IsTree.l0
   exact zm7
theorem impl_IsTree.mono : ∀ a0 a1 a2 k, LeO (impl_IsTree.f k a0 a1 a2) (impl_IsTree.f (k + 1) a0 a1 a2) := by
 intro a0 a1 a2 k; obtain ⟨ih0, ih1⟩ := impl_IsTree.mono_l k; unfold impl_IsTree.f; exact zm7
end Go.Proofs.Ytnbljcgdgblgoaa.P
end

section
namespace Go.Proofs.Ytnbljcgdgblgoaa.P
open Go.RowKit Go.Proofs.YtnbljcgdgblgoaaW.PrintWords Go.Proofs.YtnbljcgdgblgoaaW.PrintLast Go.Proofs.YtnbljcgdgblgoaaW.PrintMore
attribute [local go_sem] max2_int min2_int max_two min_two max_three min_three max_four min_four
set_option linter.unusedVariables false
set_option linter.unusedSimpArgs false
def spec_l12Joins.l0 : Nat → List Int → Int → Int → Int → List (S57) → Int → List (S57) → Option (Bool)
 | 0, _, _, _, _, _, _, _ => none
 | k + 1, d5, j6, jH, aJ, aI, nT, lP => if jH < j6 then (if 0 ≤ jH then (if jH < (d5.length : Int) then (if 0 ≤ (rd d5 jH) then (if (rd d5 jH) < (aI.length : Int) then (if lP.length < 8796093022208 then (spec_l12Joins.l0 k d5 j6 (wrap64 (jH + 1)) aJ aI nT (lP ++ [(⟨(rd_T57 aI (rd d5 jH)).f0, (rd_T57 aI (rd d5 jH)).f1⟩ : S57)])) else (none)) else (none)) else (none)) else (none)) else (none)) else ((spec_l02Reach.f k nT lP).bind fun f4 => (some ((f4.length : Int) == aJ)))
def spec_l12Joins.f (k : Nat) (aD : Int) (aC : List (S57)) (l1 : List Int) : Option (Bool) := spec_l12Joins.l0 k l1 (l1.length : Int) 0 aD aC aD ([] : List (S57))
theorem spec_l12Joins.mono_l : ∀ k, (∀ y0 y1 y2 y3 y4 y5 y6, LeO (spec_l12Joins.l0 k y0 y1 y2 y3 y4 y5 y6) (spec_l12Joins.l0 (k + 1) y0 y1 y2 y3 y4 y5 y6))
 | 0 => fun _ _ _ _ _ _ _ r h => by simp [spec_l12Joins.l0] at h
 | k + 1 => by
  have ih0 := spec_l12Joins.mono_l k
  ·intro y0 y1 y2 y3 y4 y5 y6
   unfold spec_l12Joins.l0
   exact zm15
theorem spec_l12Joins.mono : ∀ a0 a1 a2 k, LeO (spec_l12Joins.f k a0 a1 a2) (spec_l12Joins.f (k + 1) a0 a1 a2) := by
 intro a0 a1 a2 k; have ih0 := spec_l12Joins.mono_l k; unfold spec_l12Joins.f; exact zm15
mutual
def spec_TreesOf.j0 : Nat → Bool → Int → List (S57) → Option ((List (List Int)) × Bool)
 | 0, _, _, _ => none
 | k + 1, rD, aJ, aI => if rD = true then (some (([] : List (List Int)), false)) else ((spec_l03Sets.f (aI.length : Int) (wrap64 (aJ - 1))).bind fun iR => (spec_TreesOf.l0 k (([] : List (List Int))) iR (iR.length : Int) 0 aJ aI))
def spec_TreesOf.l0 : Nat → List (List Int) → List (List Int) → Int → Int → Int → List (S57) → Option ((List (List Int)) × Bool)
 | 0, _, _, _, _, _, _ => none
 | k + 1, x4, rC, o8, m8, aJ, aI => if m8 < o8 then (if 0 ≤ m8 then (if m8 < (rC.length : Int) then ((spec_l12Joins.f k aJ aI (rd_L3 rC m8)).bind fun dT => (if dT = true then (if x4.length < 5864062014805 then (spec_TreesOf.l0 k (x4 ++ [rd_L3 rC m8]) rC o8 (wrap64 (m8 + 1)) aJ aI) else (none)) else (spec_TreesOf.l0 k x4 rC o8 (wrap64 (m8 + 1)) aJ aI))) else (none)) else (none)) else (some (x4, true))
end
def spec_TreesOf.f (k : Nat) (aD : Int) (aC : List (S57)) : Option ((List (List Int)) × Bool) := (spec_GraphOk.f k aD aC).bind fun aQ => (if aQ = true then ((spec_CountTrees.f k aD aC).bind fun bQ => (spec_TreesOf.j0 k (decide (bQ > 400)) aD aC)) else (spec_TreesOf.j0 k true aD aC))
theorem spec_TreesOf.mono_l : ∀ k, (∀ y0 y1 y2, LeO (spec_TreesOf.j0 k y0 y1 y2) (spec_TreesOf.j0 (k + 1) y0 y1 y2)) ∧ (∀ y0 y1 y2 y3 y4 y5, LeO (spec_TreesOf.l0 k y0 y1 y2 y3 y4 y5) (spec_TreesOf.l0 (k + 1) y0 y1 y2 y3 y4 y5))
 | 0 => ⟨fun _ _ _ r h => by simp [spec_TreesOf.j0] at h, fun _ _ _ _ _ _ r h => by simp [spec_TreesOf.l0] at h⟩
 | k + 1 => by
  obtain ⟨ih0, ih1⟩ := spec_TreesOf.mono_l k
  refine ⟨?_, ?_⟩
  ·intro y0 y1 y2
   unfold spec_TreesOf.j0
   exact zm8
  ·intro y0 y1 y2 y3 y4 y5
   unfold spec_TreesOf.l0
   exact zm8
theorem spec_TreesOf.mono : ∀ a0 a1 k, LeO (spec_TreesOf.f k a0 a1) (spec_TreesOf.f (k + 1) a0 a1) := by
 intro a0 a1 k; obtain ⟨ih0, ih1⟩ := spec_TreesOf.mono_l k; unfold spec_TreesOf.f; exact zm8
end Go.Proofs.Ytnbljcgdgblgoaa.P
end

section
namespace Go.Proofs.Ytnbljcgdgblgoaa.Cf
set_option linter.unusedVariables false
set_option linter.unusedSimpArgs false
open Go.RowKit Go.Proofs.YtnbljcgdgblgoaaW.PrintWords Go.Proofs.Ytnbljcgdgblgoaa.P
theorem specAll_l0 (m : Nat) (hm : m ≤ 100) : ∀ (d i : Nat), i + d = m → Ep (fun k => spec_l03All.l0 k (m : Int) (upTo i) (i : Int)) (· = upTo m) := by
 intro d
 induction d with
 | zero =>
  intro i hi
  refine Ep.up ?_
  simp only [spec_l03All.l0]
  refine Ep.neg (by omega) (Ep.now ?_)
  rw [show i = m by omega]
 | succ d ih =>
  intro i hi
  have h := ih (i + 1) (by omega)
  have e : upTo (i + 1) = upTo i ++ [(i : Int)] := by unfold upTo; rw [List.range_succ, List.map_append]; rfl
  rw [e] at h
  have hl : (upTo i).length = i := by unfold upTo; simp
  refine Ep.up ?_
  simp only [spec_l03All.l0]
  refine Ep.pos (by omega) (Ep.pos (by omega) ?_)
  rw [wrap_succ (by omega)]
  exact h
theorem specAll (m : Nat) (hm : m ≤ 100) : Ep (fun k => spec_l03All.f k (m : Int)) (· = upTo m) := by
 simp only [spec_l03All.f]
 exact specAll_l0 m hm m 0 (by omega)
theorem specDeterminant {m : Nat} (hm : m ≤ 5) {M : List (List Int)} (hM : SqOk m M) : Ep (fun k => spec_Determinant.f k M) (· = detL M (upTo m) (upTo m)) := by
 have hM1 := hM.1
 have hu : (upTo m).length = m := by unfold upTo; simp
 simp only [spec_Determinant.f]
 refine Ep.bind (specMatrixOk hm hM) ?_
 rintro _ rfl
 rw [hM1]
 refine Ep.pos rfl (Ep.bind (specAll m (by omega)) ?_)
 rintro _ rfl
 refine Ep.bind (specAll m (by omega)) ?_
 rintro _ rfl
 refine Ep.bind (specDet hm hM (upTo m) (by omega) (fun r hr => upTo_mem.1 hr) (upTo m) (by omega) (fun r hr => upTo_mem.1 hr)) ?_
 rintro _ rfl
 exact Ep.now rfl
theorem specCountTrees {n : Nat} {es : List E} (hg : GOk (n : Int) es) : Ep (fun k => spec_CountTrees.f k (n : Int) es) (· = dlap es (vsL n 0)) := by
 have hG := hg.1
 unfold EsOk at hG
 simp only [spec_CountTrees.f]
 refine Ep.bind (specGraph _ _) ?_
 rintro _ rfl
 refine Ep.pos (gOk_iff.2 hg) (Ep.bind (specRL hg (q := 0) (by omega)) ?_)
 rintro _ rfl
 refine Ep.bind (specDeterminant (by omega) (redM_sq (q := 0) (by omega) hG.2.2.1)) ?_
 rintro _ rfl
 rw [redM_det (by omega)]
 exact Ep.now rfl
theorem Ep.all {α β : Type} {f : Nat → α → Option β} {g : α → β} : ∀ (L : List α), (∀ x ∈ L, Ep (fun k => f k x) (· = g x)) → ∃ K, ∀ k, K ≤ k → ∀ x ∈ L, f k x = some (g x)
 | [], _ => ⟨0, fun k _ x hx => absurd hx List.not_mem_nil⟩
 | a :: L, h => by
  obtain ⟨K, hK⟩ := Ep.all L fun x hx => h x (List.mem_cons_of_mem _ hx)
  obtain ⟨_, rfl, J, hJ⟩ := h a List.mem_cons_self
  refine ⟨max K J, fun k hk x hx => ?_⟩
  rcases List.mem_cons.1 hx with rfl | hx
  ·exact hJ k (by omega)
  ·exact hK k (by omega) x hx
end Go.Proofs.Ytnbljcgdgblgoaa.Cf
end

section
namespace Go.Proofs.Ytnbljcgdgblgoaa.P
open Go.RowKit Go.Proofs.YtnbljcgdgblgoaaW.PrintWords Go.Proofs.YtnbljcgdgblgoaaW.PrintLast Go.Proofs.YtnbljcgdgblgoaaW.PrintMore
attribute [local go_sem] max2_int min2_int max_two min_two max_three min_three max_four min_four
set_option linter.unusedVariables false
set_option linter.unusedSimpArgs false
def impl_ParkingsOf.f (k : Nat) (a0 : Int) (es : List S57) (q : Int) : Option (List (List Int) × Bool) :=
 (impl_isVertex.f a0 es q).bind fun t => if t = true then (impl_GroupOrder.f k a0 es).bind fun c => if c ≤ 400 then (impl_reducedAt.f k a0 es q).bind fun L => if 0 ≤ q ∧ (∀ x ∈ L, q < (x.length : Int) ∧ x.length ≤ 1000000) ∧ L.length ≤ 1000000000 then some (L.map (fun x => x.set q.toNat (-1)), true) else none else some ([], false) else some ([], false)
theorem impl_ParkingsOf.mono : ∀ a0 a1 a2 k, LeO (impl_ParkingsOf.f k a0 a1 a2) (impl_ParkingsOf.f (k + 1) a0 a1 a2) := by
 intro a0 a1 a2 k; unfold impl_ParkingsOf.f; exact LeO.bind (LeO.refl _) fun t => LeO.ite (LeO.bind (impl_GroupOrder.mono _ _ k) fun c => LeO.ite (LeO.bind (impl_reducedAt.mono _ _ _ k) fun _ => LeO.refl _) (LeO.refl _)) (LeO.refl _)
def spec_ParkingsOf.f (k : Nat) (a0 : Int) (es : List S57) (q : Int) : Option (List (List Int) × Bool) :=
 (spec_GraphOk.f k a0 es).bind fun t => if t = true then (spec_l01In.f q 0 (wrap64 (a0 - 1))).bind fun u => if u = true then (spec_GroupOrder.f k a0 es).bind fun c => if c ≤ 400 then (spec_l11All.f k a0 es q).bind fun L => if 0 ≤ q ∧ (∀ x ∈ L, q < (x.length : Int) ∧ x.length ≤ 1000000) ∧ L.length ≤ 1000000 then (spec_l09Sort.f k (L.map fun x => x.set q.toNat (-1))).bind fun r => some (r, true) else none else some ([], false) else some ([], false) else some ([], false)
theorem spec_ParkingsOf.mono : ∀ a0 a1 a2 k, LeO (spec_ParkingsOf.f k a0 a1 a2) (spec_ParkingsOf.f (k + 1) a0 a1 a2) := by
 intro a0 a1 a2 k; unfold spec_ParkingsOf.f; exact LeO.bind (spec_GraphOk.mono _ _ k) fun t => LeO.ite (LeO.bind (LeO.refl _) fun u => LeO.ite (LeO.bind (spec_GroupOrder.mono _ _ k) fun c => LeO.ite (LeO.bind (spec_l11All.mono _ _ _ k) fun _ => LeO.ite (LeO.bind (spec_l09Sort.mono _ k) fun _ => LeO.refl _) (LeO.refl _)) (LeO.refl _)) (LeO.refl _)) (LeO.refl _)
end Go.Proofs.Ytnbljcgdgblgoaa.P
end

section
namespace Go.Proofs.Ytnbljcgdgblgoaa.Cf
set_option linter.unusedVariables false
set_option linter.unusedSimpArgs false
open Go.RowKit Go.Proofs.YtnbljcgdgblgoaaW.PrintWords Go.Proofs.Ytnbljcgdgblgoaa.P
def lexB : List Int → List Int → Bool
 | x :: xs, y :: ys => if x = y then lexB xs ys else decide (x < y)
 | _, _ => false
theorem less_l0 (a b : List Int) (hl : a.length = b.length) (hb : a.length ≤ 1000) : ∀ (d i : Nat), i + d = a.length → Ep (fun k => spec_l09Less.l0 k b a (a.length : Int) (i : Int)) (· = lexB (a.drop i) (b.drop i)) := by
 intro d
 induction d with
 | zero =>
  intro i hi
  refine Ep.up ?_
  simp only [spec_l09Less.l0]
  refine Ep.neg (by omega) (Ep.now ?_)
  rw [List.drop_eq_nil_of_le (by omega)]
  rfl
 | succ d ih =>
  intro i hi
  have h := ih (i + 1) (by omega)
  have ha : i < a.length := by omega
  have hb2 : i < b.length := by omega
  refine Ep.up ?_
  simp only [spec_l09Less.l0]
  refine Ep.pos (by omega) (Ep.pos (by omega) (Ep.pos (by omega) (Ep.pos (by omega) ?_)))
  rw [List.drop_eq_getElem_cons ha, List.drop_eq_getElem_cons hb2, rd_get ha, rd_get hb2, wrap_succ (by omega)]
  by_cases e : a[i] = b[i]
  ·refine Ep.pos e (h.mono fun r hr => hr.trans ?_)
   show _ = if a[i] = b[i] then _ else _
   rw [if_pos e]
  ·refine Ep.neg e (Ep.now ?_)
   show _ = if a[i] = b[i] then _ else _
   rw [if_neg e]
theorem specLess (a b : List Int) (hl : a.length = b.length) (hb : a.length ≤ 1000) : Ep (fun k => spec_l09Less.f k a b) (· = lexB a b) := by
 simp only [spec_l09Less.f]
 exact less_l0 a b hl hb a.length 0 (by omega)
def cntP (es : List E) (q : Int) (v : Nat) : Nat := if (v : Int) = q then 1 else (val es (v : Int)).toNat
def pB (n : Nat) (es : List E) (q : Int) (x : List Int) : Bool := decide ((burnF n es (rd x) q).length = n)
def redL (n : Nat) (es : List E) (q : Int) : List (List Int) := (boxL (cntP es q) n).filter (pB n es q)
theorem box_congr {c d : Nat → Nat} : ∀ {n : Nat}, (∀ v, v < n → c v = d v) → boxL c n = boxL d n
 | 0, _ => rfl
 | n + 1, h => by rw [boxL, boxL, box_congr fun v hv => h v (by omega), h n (by omega)]
theorem box_len1 {c : Nat → Nat} {b q : Nat} (hb : 1 ≤ b) (hq : c q ≤ 1) : ∀ {v : Nat}, (∀ u, u < v → c u ≤ b) → (boxL c v).length ≤ if q < v then b ^ (v - 1) else b ^ v
 | 0, _ => by rw [if_neg (by omega)]; exact Nat.le_refl _
 | v + 1, h => by
  have ih := box_len1 hb hq (v := v) fun u hu => h u (by omega)
  show ((boxL c v).flatMap (extB (c v))).length ≤ _
  rw [flatB_len]
  by_cases e : q < v
  ·rw [if_pos e] at ih
   rw [if_pos (by omega)]
   have := Nat.mul_le_mul ih (h v (by omega))
   rwa [← Nat.pow_succ, show (v - 1).succ = v + 1 - 1 by omega] at this
  ·rw [if_neg e] at ih
   by_cases e2 : q = v
   ·subst e2
    rw [if_pos (by omega), Nat.add_sub_cancel]
    have := Nat.mul_le_mul ih hq
    omega
   ·rw [if_neg (by omega), Nat.pow_succ]
    exact Nat.mul_le_mul ih (h v (by omega))
section
variable {n : Nat} {es : List E} {q : Int}
theorem val_bd (g : Gr n es q) (v : Int) : val es v ≤ 12 := by have := val_le es v; have := g.hel; omega
theorem val_ge (g : Gr n es q) {v : Nat} (hv : v < n) (hne : (v : Int) ≠ q) : 1 ≤ val es (v : Int) := by
 have := val_pos g.hj g.hq ⟨by omega, by omega⟩ hne
 omega
theorem cntP_le (g : Gr n es q) (v : Nat) : cntP es q v ≤ 12 := by
 unfold cntP
 have := val_bd g (v : Int)
 split <;> omega
theorem cntP_pos (g : Gr n es q) {v : Nat} (hv : v < n) : 1 ≤ cntP es q v := by
 unfold cntP
 split
 ·exact Nat.le_refl _
 ·rename_i h
  have := val_ge g hv h
  omega
theorem box_bd (g : Gr n es q) : (boxL (cntP es q) n).length ≤ 248832 := by
 have hq := g.hq
 have h6 := g.n6
 have h := box_len1 (c := cntP es q) (b := 12) (q := q.toNat) (by omega) (by unfold cntP; rw [if_pos (by omega)]; exact Nat.le_refl _) (v := n) fun u _ => cntP_le g u
 rw [if_pos (by omega)] at h
 exact Nat.le_trans h (Nat.pow_le_pow_right (n := 12) (by omega) (show n - 1 ≤ 5 by omega))
theorem box_pos (g : Gr n es q) : 0 < (boxL (cntP es q) n).length := by
 have key : ∀ m, m ≤ n → 0 < (boxL (cntP es q) m).length := by
  intro m
  induction m with
  | zero => intro _; exact Nat.one_pos
  | succ m ih =>
   intro hm
   show 0 < ((boxL (cntP es q) m).flatMap (extB (cntP es q m))).length
   rw [flatB_len]
   exact Nat.mul_pos (ih (by omega)) (cntP_pos g (by omega))
 exact key n (Nat.le_refl _)
theorem burn_le (g : Gr n es q) (x : List Int) : (burnF n es (rd x) q).length ≤ n := (burnF_ok (es := es) (d := rd x) g.hq).1.len g.hq
theorem redL_mem {x : List Int} (h : x ∈ redL n es q) : x.length = n ∧ ∀ (j : Nat) (hj : j < x.length), 0 ≤ x[j] ∧ x[j] < (cntP es q j : Int) := boxL_row (List.mem_filter.1 h).1
theorem redL_len (g : Gr n es q) : (redL n es q).length ≤ 248832 := Nat.le_trans (List.length_filter_le _ _) (box_bd g)
theorem redL_q (g : Gr n es q) {x : List Int} (h : x ∈ redL n es q) : x.getD q.toNat 0 = 0 := by
 have hq := g.hq
 obtain ⟨h1, h2⟩ := redL_mem h
 have hl : q.toNat < x.length := by omega
 have h3 := h2 q.toNat hl
 have h4 : cntP es q q.toNat = 1 := by unfold cntP; rw [if_pos (by omega)]
 rw [h4] at h3
 rw [List.getD_eq_getElem?_getD, List.getElem?_eq_getElem hl]
 simp only [Option.getD_some]
 omega
theorem implRed (g : Gr n es q) : Ep (fun k => impl_reducedAt.f k (n : Int) es q) (· = redL n es q) := by
 have h6 := g.n6
 have hel := g.hel
 obtain ⟨K1, hK1⟩ := Ep.all (f := fun k (v : Nat) => impl_Valence.f k (n : Int) es (v : Int)) (g := fun v => valG (n : Int) es (v : Int)) (List.range n) fun v _ => implValence (n : Int) es (v : Int) (by omega)
 obtain ⟨K2, hK2⟩ := Ep.all (f := fun k x => impl_burn.f k (n : Int) es x q) (g := fun x => burnF n es (rd x) q) (boxL (cntP es q) n) fun x hx => implBurn g x (boxL_row hx).1
 refine ⟨_, rfl, max K1 K2, fun k hk => ?_⟩
 have hv : ∀ v, v < n → impl_Valence.f k (n : Int) es (v : Int) = some (val es (v : Int)) := fun v hv => by rw [hK1 k (by omega) v (List.mem_range.2 hv), valG_in ⟨by omega, by omega⟩]
 have hb := hK2 k (by omega)
 have e1 : boxL (impl_reducedAt.cnt k (n : Int) es q) n = boxL (cntP es q) n := box_congr fun v hv' => by
  unfold impl_reducedAt.cnt cntP
  rw [hv v hv']
  rfl
 have hnn : ((n : Int)).toNat = n := Int.toNat_natCast n
 show impl_reducedAt.f k (n : Int) es q = some (redL n es q)
 unfold impl_reducedAt.f
 rw [if_pos]
 ·rw [hnn, e1]
  congr 1
  refine List.filter_congr fun x hx => ?_
  have hle := burn_le g x
  unfold impl_reducedAt.pr pB
  rw [hb x hx]
  show (!decide (((burnF n es (rd x) q).length : Int) < (n : Int))) = decide ((burnF n es (rd x) q).length = n)
  by_cases e : (burnF n es (rd x) q).length = n
  ·rw [decide_eq_true e, decide_eq_false (by omega)]; rfl
  ·rw [decide_eq_false e, decide_eq_true (by omega)]; rfl
 ·refine ⟨⟨by omega, fun v hv' => ?_⟩, fun x hx => ?_, ?_⟩
  ·rw [hnn] at hv'
   rw [hv v hv']
   have h0 : 0 ≤ val es (v : Int) := by
    by_cases e : (v : Int) = q
    ·exact val_nonneg es _
    ·have := val_ge g hv' e; omega
   have := val_bd g (v : Int)
   exact ⟨rfl, by simpa using h0, by simp only [Option.getD_some]; omega⟩
  ·rw [hnn, e1] at hx
   rw [hb x hx]
   rfl
  ·rw [hnn, e1]
   exact box_pos g
theorem specRed (g : Gr n es q) : Ep (fun k => spec_l11All.f k (n : Int) es q) (· = redL n es q) := by
 have h6 := g.n6
 have hel := g.hel
 obtain ⟨K1, hK1⟩ := Ep.all (f := fun k (v : Nat) => spec_Valence.f k (n : Int) es (v : Int)) (g := fun v => valG (n : Int) es (v : Int)) (List.range n) fun v _ => specValence (n : Int) es (v : Int) (by omega)
 obtain ⟨K2, hK2⟩ := Ep.all (f := fun k x => spec_l05Burn.f k (n : Int) es x q) (g := fun x => burnF n es (rd x) q) (boxL (cntP es q) n) fun x hx => specBurn g x (boxL_row hx).1
 refine ⟨_, rfl, max K1 K2, fun k hk => ?_⟩
 have hv : ∀ v, v < n → spec_Valence.f k (n : Int) es (v : Int) = some (val es (v : Int)) := fun v hv => by rw [hK1 k (by omega) v (List.mem_range.2 hv), valG_in ⟨by omega, by omega⟩]
 have hb := hK2 k (by omega)
 have hnn : ((n : Int)).toNat = n := Int.toNat_natCast n
 have e1 : dfsB (spec_l11All.cnt k (n : Int) es q) n 0 [] = boxL (cntP es q) n := by
  rw [dfs_box]
  refine box_congr fun v hv' => ?_
  unfold spec_l11All.cnt cntP
  rw [hv v hv']
  by_cases e : (v : Int) = q
  ·rw [if_pos e, if_pos e]
  ·rw [if_neg e, if_neg e]
   have := val_ge g hv' e
   show (mx 1 (val es (v : Int))).toNat = _
   unfold mx
   split <;> omega
 show spec_l11All.f k (n : Int) es q = some (redL n es q)
 unfold spec_l11All.f
 rw [if_pos]
 ·rw [hnn, e1]
  congr 1
  refine List.filter_congr fun x hx => ?_
  unfold spec_l11All.pr pB
  rw [hb x hx]
  show decide (((burnF n es (rd x) q).length : Int) = (n : Int)) = decide ((burnF n es (rd x) q).length = n)
  by_cases e : (burnF n es (rd x) q).length = n
  ·rw [decide_eq_true e, decide_eq_true (by omega)]
  ·rw [decide_eq_false e, decide_eq_false (by omega)]
 ·refine ⟨⟨by omega, fun v hv' => ?_⟩, fun x hx => ?_⟩
  ·rw [hnn] at hv'
   rw [hv v hv']
   have h0 : 0 ≤ val es (v : Int) := by
    by_cases e : (v : Int) = q
    ·exact val_nonneg es _
    ·have := val_ge g hv' e; omega
   have := val_bd g (v : Int)
   exact ⟨rfl, by simpa using h0, by simp only [Option.getD_some]; omega⟩
  ·rw [hnn, e1] at hx
   rw [hb x hx]
   rfl
end
theorem implGO {n : Nat} {es : List E} (hg : GOk (n : Int) es) : Ep (fun k => impl_GroupOrder.f k (n : Int) es) (· = dlap es (vsL n 0)) := by
 simp only [impl_GroupOrder.f]
 refine Ep.bind (implCountTrees hg) ?_
 rintro _ rfl
 exact Ep.now rfl
theorem specGO {n : Nat} {es : List E} (hg : GOk (n : Int) es) : Ep (fun k => spec_GroupOrder.f k (n : Int) es) (· = dlap es (vsL n 0)) := by
 simp only [spec_GroupOrder.f]
 refine Ep.bind (specCountTrees hg) ?_
 rintro _ rfl
 exact Ep.now rfl
end Go.Proofs.Ytnbljcgdgblgoaa.Cf
end

section
namespace Go.Proofs.Ytnbljcgdgblgoaa.Cf
set_option linter.unusedVariables false
set_option linter.unusedSimpArgs false
open Go.RowKit Go.Proofs.YtnbljcgdgblgoaaW.PrintWords Go.Proofs.Ytnbljcgdgblgoaa.P
theorem kpos_in {α : Type} {lt : α → α → Bool} {x : α} {Z : List α} : ∀ k, k ≤ Z.length → ∀ j (h : j < Z.length), kpos lt x Z k ≤ j → j < k → lt x Z[j] = true
 | 0, _, _, _, _, h2 => absurd h2 (by omega)
 | k + 1, hk, j, h, h1, h2 => by
  rw [kpos_at lt x (List.getElem?_eq_getElem (show k < Z.length by omega))] at h1
  by_cases c : lt x Z[k] = true
  ·rw [if_pos c] at h1
   by_cases e : j = k
   ·subst e
    exact c
   ·exact kpos_in k (by omega) j h h1 (by omega)
  ·rw [if_neg c] at h1
   omega
theorem kpos_off {α : Type} {lt : α → α → Bool} {x : α} {Z : List α} : ∀ k, k ≤ Z.length → ∀ j (h : j < Z.length), j + 1 = kpos lt x Z k → lt x Z[j] = false
 | 0, _, _, _, e => by
  unfold kpos at e
  omega
 | k + 1, hk, j, h, e => by
  rw [kpos_at lt x (List.getElem?_eq_getElem (show k < Z.length by omega))] at e
  by_cases c : lt x Z[k] = true
  ·rw [if_pos c] at e
   exact kpos_off k (by omega) j h e
  ·rw [if_neg c] at e
   obtain rfl : j = k := by omega
   exact Bool.eq_false_iff.2 c
theorem ins_srt {α : Type} {lt : α → α → Bool} {le : α → α → Prop} {x : α} {Z : List α} (ht : ∀ a b c, le a b → le b c → le a c) (hy : ∀ y ∈ Z, lt x y = true → le x y) (hn : ∀ y ∈ Z, lt x y = false → le y x) (hZ : Z.Pairwise le) : (insB lt x Z).Pairwise le := by
 have hp := kpos_le lt x Z Z.length
 have h1 := kpos_in (lt := lt) (x := x) (Z := Z) Z.length (Nat.le_refl _)
 have h2 := kpos_off (lt := lt) (x := x) (Z := Z) Z.length (Nat.le_refl _)
 unfold insB
 generalize kpos lt x Z Z.length = p at hp h1 h2
 have hidx := List.pairwise_iff_getElem.1 hZ
 rw [List.pairwise_append, List.pairwise_cons]
 refine ⟨hZ.sublist (List.take_sublist _ _), ⟨fun y hy2 => ?_, hZ.sublist (List.drop_sublist _ _)⟩, fun a ha b hb => ?_⟩
 ·obtain ⟨j, hj, rfl⟩ := List.getElem_of_mem hy2
  rw [List.length_drop] at hj
  rw [List.getElem_drop]
  exact hy _ (List.getElem_mem _) (h1 (p + j) (by omega) (by omega) (by omega))
 ·obtain ⟨i, hi, rfl⟩ := List.getElem_of_mem ha
  rw [List.length_take] at hi
  rw [List.getElem_take]
  rcases List.mem_cons.1 hb with rfl | hb
  ·have h3 := hn _ (List.getElem_mem (show p - 1 < Z.length by omega)) (h2 (p - 1) (by omega) (by omega))
   by_cases e : i = p - 1
   ·subst e
    exact h3
   ·exact ht _ _ _ (hidx i (p - 1) (by omega) (by omega) (by omega)) h3
  ·obtain ⟨j, hj, rfl⟩ := List.getElem_of_mem hb
   rw [List.length_drop] at hj
   rw [List.getElem_drop]
   exact hidx i (p + j) (by omega) (by omega) (by omega)
theorem sort_srt {α : Type} {lt : α → α → Bool} {le : α → α → Prop} {l : List α} (ht : ∀ a b c, le a b → le b c → le a c) (hy : ∀ x ∈ l, ∀ y ∈ l, lt x y = true → le x y) (hn : ∀ x ∈ l, ∀ y ∈ l, lt x y = false → le y x) : ∀ i, i ≤ l.length → (sortB lt l i).Pairwise le
 | 0, _ => List.Pairwise.nil
 | i + 1, hi => by
  have hlt : i < l.length := by omega
  rw [sortB_succ lt (List.getElem?_eq_getElem hlt)]
  have hm : ∀ y ∈ sortB lt l i, y ∈ l := fun y hy2 => List.mem_of_mem_take ((sortB_perm lt l i (by omega)).mem_iff.1 hy2)
  exact ins_srt ht (fun y h => hy _ (List.getElem_mem hlt) y (hm y h)) (fun y h => hn _ (List.getElem_mem hlt) y (hm y h)) (sort_srt ht hy hn i (by omega))
theorem lexB_C : ∀ {a b : List Int}, a.length = b.length → lexB a b = decide (lexC a b < 0)
 | [], [], _ => rfl
 | [], _ :: _, h => by simp at h
 | _ :: _, [], h => by simp at h
 | x :: xs, y :: ys, h => by
  unfold lexB lexC
  by_cases e : x = y
  ·rw [if_pos e, if_pos e]
   exact lexB_C (by simpa using h)
  ·rw [if_neg e, if_neg e]
   by_cases c : x < y
   ·rw [if_pos c, decide_eq_true c]
    rfl
   ·rw [if_neg c, decide_eq_false c]
    rfl
theorem cmpK (a b : Int) : cmp_Compare_int.f a b = some (if a < b then -1 else if a > b then 1 else 0) := by
 by_cases h1 : a < b
 ·simp [cmp_Compare_int.f, cmp_isNaN_int.f, h1]
 ·by_cases h2 : b < a <;> simp [cmp_Compare_int.f, cmp_isNaN_int.f, h1, h2]
theorem cmp_l0 (a b : List Int) (hl : a.length = b.length) (hb : a.length ≤ 1000) : ∀ (d i : Nat), i + d = a.length → Ep (fun k => slices_Compare_int_int.l0 k a b a (a.length : Int) (i : Int)) (· = lexC (a.drop i) (b.drop i)) := by
 intro d
 induction d with
 | zero =>
  intro i hi
  refine Ep.up ?_
  simp only [slices_Compare_int_int.l0]
  refine Ep.neg (by omega) (Ep.neg (by omega) (Ep.now ?_))
  rw [List.drop_eq_nil_of_le (by omega), List.drop_eq_nil_of_le (by omega)]
  rfl
 | succ d ih =>
  intro i hi
  have h := ih (i + 1) (by omega)
  have ha : i < a.length := by omega
  have hb2 : i < b.length := by omega
  refine Ep.up ?_
  simp only [slices_Compare_int_int.l0]
  refine Ep.pos (by omega) (Ep.pos (by omega) (Ep.pos (by omega) (Ep.neg (by omega) (Ep.pos (by omega) (Ep.bind0 (cmpK _ _) ?_)))))
  rw [List.drop_eq_getElem_cons ha, List.drop_eq_getElem_cons hb2, rd_get ha, rd_get hb2, wrap_succ (by omega)]
  by_cases e : a[i] = b[i]
  ·refine Ep.pos (by rw [if_neg (by omega), if_neg (by omega)]) (h.mono fun r hr => hr.trans ?_)
   show _ = if a[i] = b[i] then _ else _
   rw [if_pos e]
  ·refine Ep.neg (by split; omega; split; omega; omega) (Ep.now ?_)
   show _ = if a[i] = b[i] then _ else _
   rw [if_neg e]
   by_cases c : a[i] < b[i]
   ·rw [if_pos c, if_pos c]
   ·rw [if_neg c, if_neg c, if_pos (by omega)]
theorem cmpC (a b : List Int) (hl : a.length = b.length) (hb : a.length ≤ 1000) : Ep (fun k => slices_Compare_int_int.f k a b) (· = lexC a b) := by
 simp only [slices_Compare_int_int.f]
 exact cmp_l0 a b hl hb a.length 0 (by omega)
theorem pairs_mem {L : List (List Int)} {x y : List Int} (hx : x ∈ L) (hy : y ∈ L) : (x, y) ∈ L.flatMap fun x => L.map fun y => (x, y) := List.mem_flatMap.2 ⟨x, hx, List.mem_map.2 ⟨y, hy, rfl⟩⟩
theorem cmp_all {L : List (List Int)} {n : Nat} (hn : n ≤ 1000) (hr : ∀ x ∈ L, x.length = n) : ∃ K, ∀ k, K ≤ k → ∀ x ∈ L, ∀ y ∈ L, slices_Compare_int_int.f k x y = some (lexC x y) := by
 obtain ⟨K, hK⟩ := Ep.all (f := fun k (p : List Int × List Int) => slices_Compare_int_int.f k p.1 p.2) (g := fun p => lexC p.1 p.2) (L.flatMap fun x => L.map fun y => (x, y)) (by
  intro p hp
  obtain ⟨x, hx, hp⟩ := List.mem_flatMap.1 hp
  obtain ⟨y, hy, rfl⟩ := List.mem_map.1 hp
  exact cmpC x y ((hr x hx).trans (hr y hy).symm) (by rw [hr x hx]; exact hn))
 exact ⟨K, fun k hk x hx y hy => hK k hk (x, y) (pairs_mem hx hy)⟩
theorem specSortL {L : List (List Int)} {n : Nat} (hn : n ≤ 1000) (hr : ∀ x ∈ L, x.length = n) (hl : L.length ≤ 1000000) : Ep (fun k => spec_l09Sort.f k L) (· = sortL L) := by
 obtain ⟨K, hK⟩ := Ep.all (f := fun k (p : List Int × List Int) => spec_l09Less.f k p.1 p.2) (g := fun p => lexB p.1 p.2) (L.flatMap fun x => L.map fun y => (x, y)) (by
  intro p hp
  obtain ⟨x, hx, hp⟩ := List.mem_flatMap.1 hp
  obtain ⟨y, hy, rfl⟩ := List.mem_map.1 hp
  exact specLess x y ((hr x hx).trans (hr y hy).symm) (by rw [hr x hx]; exact hn))
 have hK2 : ∀ k, K ≤ k → ∀ x ∈ L, ∀ y ∈ L, spec_l09Less.f k x y = some (lexB x y) := fun k hk x hx y hy => hK k hk (x, y) (pairs_mem hx hy)
 refine ⟨_, rfl, K, fun k hk => ?_⟩
 show spec_l09Sort.f k L = some (sortL L)
 unfold spec_l09Sort.f
 rw [if_pos ⟨hl, fun x hx y hy => by rw [hK2 k hk x hx y hy]; rfl⟩]
 congr 1
 have hlt : ∀ x ∈ L, ∀ y ∈ L, spec_l09Sort.lt k x y = decide (lexC x y < 0) := fun x hx y hy => by
  unfold spec_l09Sort.lt
  rw [hK2 k hk x hx y hy, lexB_C ((hr x hx).trans (hr y hy).symm)]
  cases decide (lexC x y < 0) <;> rfl
 refine sortL_eq ?_ ?_
 ·have h := sortB_perm (spec_l09Sort.lt k) L L.length (Nat.le_refl _)
  rwa [List.take_length] at h
 ·refine sort_srt (le := fun x y => lexC x y ≤ 0) (fun a b c h1 h2 => lexC_le h1 h2) (fun x hx y hy h => ?_) (fun x hx y hy h => ?_) L.length (Nat.le_refl _)
  ·rw [hlt x hx y hy] at h
   have := of_decide_eq_true h
   omega
  ·rw [hlt x hx y hy] at h
   have := of_decide_eq_false h
   have := lexC_neg x y
   omega
end Go.Proofs.Ytnbljcgdgblgoaa.Cf
end

section
namespace Go.Proofs.Ytnbljcgdgblgoaa.P
open Go.RowKit Go.Proofs.YtnbljcgdgblgoaaW.PrintWords Go.Proofs.YtnbljcgdgblgoaaW.PrintLast Go.Proofs.YtnbljcgdgblgoaaW.PrintMore
attribute [local go_sem] max2_int min2_int max_two min_two max_three min_three max_four min_four
set_option linter.unusedVariables false
set_option linter.unusedSimpArgs false
def impl_inDebt.l0 : Nat → Int → List Int → Int → Int → Option (Int)
 | 0, _, _, _, _ => none
 | k + 1, x1, x7, x8, x9 => if x9 < x8 then (if 0 ≤ x9 then (if x9 < (x7.length : Int) then (if x9 = x1 then (impl_inDebt.l0 k x1 x7 x8 (wrap64 (x9 + 1))) else (if (rd x7 x9) < 0 then (some x9) else (impl_inDebt.l0 k x1 x7 x8 (wrap64 (x9 + 1))))) else (none)) else (none)) else (some (-1))
def impl_inDebt.f (k : Nat) (l0 : List Int) (a1 : Int) : Option (Int) := impl_inDebt.l0 k a1 l0 (l0.length : Int) 0
theorem impl_inDebt.mono_l : ∀ k, (∀ y0 y1 y2 y3, LeO (impl_inDebt.l0 k y0 y1 y2 y3) (impl_inDebt.l0 (k + 1) y0 y1 y2 y3))
 | 0 => fun _ _ _ _ r h => by simp [impl_inDebt.l0] at h
 | k + 1 => by
  have ih0 := impl_inDebt.mono_l k
  ·intro y0 y1 y2 y3
   unfold impl_inDebt.l0
   exact zm0
theorem impl_inDebt.mono : ∀ a0 a1 k, LeO (impl_inDebt.f k a0 a1) (impl_inDebt.f (k + 1) a0 a1) := by
 intro a0 a1 k; have ih0 := impl_inDebt.mono_l k; unfold impl_inDebt.f; exact zm0
end Go.Proofs.Ytnbljcgdgblgoaa.P
end

section
namespace Go.Proofs.Ytnbljcgdgblgoaa.Cf
set_option linter.unusedVariables false
set_option linter.unusedSimpArgs false
open Go.RowKit Go.Proofs.YtnbljcgdgblgoaaW.PrintWords Go.Proofs.Ytnbljcgdgblgoaa.P
def Owed (n : Nat) (es : List E) (q : Int) (d : List Int) (t : Int → Int) : Prop := Legal n es q (dual es (rd d)) t
theorem Owed.zero {n : Nat} {es : List E} {q : Int} {d : List Int} : Owed n es q d (fun _ => 0) := Legal.zero
structure Sec (n : Nat) (es : List E) (q : Int) (d : List Int) (t u : Int → Int) : Prop where
 ow : Owed n es q d t
 sets : Sets n es q (fun v => rd d v + lap es t v) u
theorem Sec.done {n : Nat} {es : List E} {q : Int} (g : Gr n es q) {d : List Int} {t u : Int → Int} (h : Sec n es q d t u) {s x : List Int} (hs : Rep n s (fun w => u w - t w)) (hx : Rep n x (fun w => rd d w + lap es t w - lap es u w)) {b : List Int} (hbu : Burn n es (rd x) q b) (hl : b.length = n) : Reduced n es q d (x, s) := by
 refine ⟨hx.1, hs.1, hbu.red g.hes g.hq hl (fun v v0 v1 v2 => ?_), ?_, fun v v0 v1 => ?_⟩
 ·rw [hx.2 v v0 v1]
  exact h.sets.keeps v v0 v1 v2
 ·have e : rd s q = u q - t q := hs.2 q g.hq.1 g.hq.2
  show rd s q = 0
  rw [e, h.sets.at_q, h.ow.nonneg.2]
  rfl
 ·have e : rd x v = rd d v + lap es t v - lap es u v := hx.2 v v0 v1
  show rd x v = rd d v - lap es (rd s) v
  rw [e, lap_congr g.hes (t := fun w => u w - t w) hs.2, lap_sub]
  omega
end Go.Proofs.Ytnbljcgdgblgoaa.Cf
end

section
namespace Go.Proofs.Ytnbljcgdgblgoaa.Cf
set_option linter.unusedVariables false
set_option linter.unusedSimpArgs false
open Go.RowKit Go.Proofs.YtnbljcgdgblgoaaW.PrintWords
theorem sum_bd {n : Nat} (hn : n ≤ 6) {d : List Int} (hd : d.length = n) {B : Int} (hB : 0 ≤ B) (hb : Bd d B) : -(6 * B) ≤ d.sum ∧ d.sum ≤ 6 * B := by
 rw [sum_rd n d hd]
 have h1 := sumN_le_const (n := n) (f := fun i => rd d (i : Int)) (c := B) (fun i hi => (hb i (by omega) (by omega)).2)
 have h2 := sumN_le_const (n := n) (f := fun i => - rd d (i : Int)) (c := B) (fun i hi => by have := (hb i (by omega) (by omega)).1; omega)
 have h3 : sumN n (fun i => - rd d (i : Int)) + sumN n (fun i => rd d (i : Int)) = 0 := by
  rw [← sumN_add]
  have := sumN_zero n
  rw [← this]
  apply sumN_congr
  intro i _
  omega
 have h4 : (n : Int) * B ≤ 6 * B := Int.mul_le_mul_of_nonneg_right (by omega) hB
 omega
end Go.Proofs.Ytnbljcgdgblgoaa.Cf
end

section
namespace Go.Proofs.Ytnbljcgdgblgoaa.P
open Go.RowKit Go.Proofs.YtnbljcgdgblgoaaW.PrintWords Go.Proofs.YtnbljcgdgblgoaaW.PrintLast Go.Proofs.YtnbljcgdgblgoaaW.PrintMore
attribute [local go_sem] max2_int min2_int max_two min_two max_three min_three max_four min_four
set_option linter.unusedVariables false
set_option linter.unusedSimpArgs false
def impl_oneAt.f (aD : Int) (aC : List (S57)) (a1 : Int) (a2 : Int) : Option (List Int) := if 0 ≤ aD then (if (aD : Int).toNat ≤ 35184372088832 then ((some (List.replicate (aD : Int).toNat 0 : List Int)).bind fun iS => (if 0 ≤ a1 then (if a1 < (iS.length : Int) then (some (iS.set (a1 : Int).toNat a2)) else (none)) else (none))) else (none)) else (none)
end Go.Proofs.Ytnbljcgdgblgoaa.P
end

section
namespace Go.Proofs.Ytnbljcgdgblgoaa.Cf
set_option linter.unusedVariables false
set_option linter.unusedSimpArgs false
open Go.RowKit Go.Proofs.YtnbljcgdgblgoaaW.PrintWords Go.Proofs.Ytnbljcgdgblgoaa.P
theorem fullP_ok {n : Nat} {es : List E} {q : Int} (g : Gr n es q) (hg : GOk (n : Int) es) : (fullP (n : Int) es q).length = n ∧ Bd (fullP (n : Int) es q) 12 := by
 have e : fullP (n : Int) es q = fullL n es q := by
  unfold fullP
  rw [if_pos ⟨gOk_iff.2 hg, g.hq⟩]
 rw [e]
 have hl : (fullL (n : Int) es q).length = n := by simp [fullL]
 refine ⟨hl, fun w w0 w1 => ?_⟩
 obtain ⟨i, rfl⟩ := Int.eq_ofNat_of_zero_le w0
 rw [rd_get (by omega)]
 simp only [fullL, List.getElem_map, List.getElem_range]
 unfold fullAt
 have := valG_bd (n := n) (es := es) (v := i)
 have := g.hel
 split <;> omega
theorem specFull11 {n : Nat} {es : List E} {q : Int} (g : Gr n es q) (hg : GOk (n : Int) es) {p : List Int} (hl : p.length = n) (hb : Bd p 1000000) : Ep (fun k => spec_l11Full.f k (n : Int) es p q) (· = (minL (fullP n es q) p).set q.toNat 0) := by
 have hn := g.n6
 have hq := g.hq
 have hf := fullP_ok g hg
 simp only [spec_l11Full.f]
 refine Ep.bind (specFull n es q) ?_
 rintro _ rfl
 refine Ep.bind (specMinus _ p (by omega) (by omega) (hf.2.mono (by omega)) (hb.mono (by omega))) ?_
 rintro _ rfl
 have := minL_len (fullP (n : Int) es q) p
 exact Ep.pos (by omega) (Ep.pos (by omega) (Ep.now rfl))
def rcR (n : Nat) (es : List E) (q : Int) (x : List Int) : List Int := (minL (fullP (n : Int) es q) x).set q.toNat 0
def rcL (n : Nat) (es : List E) (q : Int) : List (List Int) := (redL n es q).map (rcR n es q)
section
variable {n : Nat} {es : List E} {q : Int}
theorem red_Bd (g : Gr n es q) {x : List Int} (h : x ∈ redL n es q) : Bd x 12 := by
 obtain ⟨h1, h2⟩ := redL_mem h
 intro w h0 hw
 obtain ⟨w, rfl⟩ := Int.eq_ofNat_of_zero_le h0
 have hlt : w < x.length := by omega
 have h3 := h2 w hlt
 have h4 := cntP_le g w
 rw [rd_get hlt]
 omega
theorem full_q (g : Gr n es q) (hg : GOk (n : Int) es) : rd (fullP (n : Int) es q) q = 0 := by
 have hq := g.hq
 have e : fullP (n : Int) es q = fullL n es q := by
  unfold fullP
  rw [if_pos ⟨gOk_iff.2 hg, by omega, by omega⟩]
 obtain ⟨i, rfl⟩ := Int.eq_ofNat_of_zero_le (show 0 ≤ q by omega)
 rw [e, rd_nat]
 unfold fullL
 rw [List.getD_eq_getElem?_getD, List.getElem?_map, List.getElem?_range (by omega)]
 show (fullAt (n : Int) es (i : Int) i) = 0
 unfold fullAt
 rw [if_pos rfl]
theorem rcR_len (g : Gr n es q) (hg : GOk (n : Int) es) (x : List Int) : (rcR n es q x).length = n := by
 unfold rcR
 rw [List.length_set, minL_len]
 exact (fullP_ok g hg).1
theorem rcR_min (g : Gr n es q) (hg : GOk (n : Int) es) {x : List Int} (h : x ∈ redL n es q) : minL (fullP (n : Int) es q) x = rcR n es q x := by
 have hq := g.hq
 have hf := (fullP_ok g hg).1
 have hlt : q.toNat < (minL (fullP (n : Int) es q) x).length := by rw [minL_len]; omega
 have h0 : (minL (fullP (n : Int) es q) x)[q.toNat] = 0 := by
  have h1 : rd (minL (fullP (n : Int) es q) x) (q.toNat : Int) = rd (fullP (n : Int) es q) (q.toNat : Int) - rd x (q.toNat : Int) := (repL_rep (fullP (n : Int) es q).length _).2 _ (by omega) (by omega)
  rw [rd_get hlt, Int.toNat_of_nonneg (by omega), full_q g hg] at h1
  have h2 := redL_q g h
  rw [← rd_nat, Int.toNat_of_nonneg (by omega)] at h2
  omega
 unfold rcR
 conv => rhs; rw [← h0]
 rw [List.set_getElem_self]
theorem rc_row (g : Gr n es q) (hg : GOk (n : Int) es) {x : List Int} (h : x ∈ redL n es q) : Ep (fun k => impl_RecurrentPiles.row k (fullP (n : Int) es q) x) (· = rcR n es q x) := by
 have hf := fullP_ok g hg
 have hl := (redL_mem h).1
 have h6 := g.n6
 have hb := red_Bd g h
 simp only [impl_RecurrentPiles.row]
 refine Ep.bind (implNeg x (by omega) (hb.mono (by omega))) ?_
 rintro _ rfl
 refine (implPlus _ _ (by omega) (by rw [negL_len]; omega) (hf.2.mono (by omega)) ((negL_bd hb).mono (by omega))).mono ?_
 intro r hr
 rw [hr, plus_neg (by omega), rcR_min g hg h]
theorem rcL_len (g : Gr n es q) : (rcL n es q).length ≤ 248832 := by unfold rcL; rw [List.length_map]; exact redL_len g
theorem rcL_row (g : Gr n es q) (hg : GOk (n : Int) es) {x : List Int} (h : x ∈ rcL n es q) : x.length = n := by
 obtain ⟨y, _, rfl⟩ := List.mem_map.1 h
 exact rcR_len g hg y
theorem implRcL (g : Gr n es q) (hg : GOk (n : Int) es) : Ep (fun k => if impl_RecurrentPiles.ok k (fullP (n : Int) es q) (redL n es q) then some (sortL (impl_RecurrentPiles.rows k (fullP (n : Int) es q) (redL n es q)), true) else none) (· = (sortL (rcL n es q), true)) := by
 have h6 := g.n6
 obtain ⟨K1, hK1⟩ := Ep.all (f := fun k x => impl_RecurrentPiles.row k (fullP (n : Int) es q) x) (g := fun x => rcR n es q x) (redL n es q) fun x hx => rc_row g hg hx
 obtain ⟨K2, hK2⟩ := cmp_all (L := rcL n es q) (n := n) (by omega) fun x hx => rcL_row g hg hx
 refine ⟨_, rfl, max K1 K2, fun k hk => ?_⟩
 have e : impl_RecurrentPiles.rows k (fullP (n : Int) es q) (redL n es q) = rcL n es q := by
  unfold impl_RecurrentPiles.rows rcL
  refine List.map_congr_left fun x hx => ?_
  rw [hK1 k (by omega) x hx]
  rfl
 have hl := redL_len g
 show (if impl_RecurrentPiles.ok k (fullP (n : Int) es q) (redL n es q) then _ else _) = _
 rw [if_pos, e]
 refine ⟨fun x hx => by rw [hK1 k (by omega) x hx]; rfl, by omega, ?_⟩
 rw [e]
 exact hK2 k (by omega)
theorem specRcL (g : Gr n es q) (hg : GOk (n : Int) es) : Ep (fun k => if spec_RecurrentPiles.ok k (n : Int) es q (redL n es q) then (spec_l09Sort.f k (spec_RecurrentPiles.rows k (n : Int) es q (redL n es q))).bind fun r => some (r, true) else none) (· = (sortL (rcL n es q), true)) := by
 have h6 := g.n6
 obtain ⟨K1, hK1⟩ := Ep.all (f := fun k x => spec_l11Full.f k (n : Int) es x q) (g := fun x => rcR n es q x) (redL n es q) fun x hx => specFull11 g hg (redL_mem hx).1 ((red_Bd g hx).mono (by omega))
 obtain ⟨_, rfl, K2, hK2⟩ := specSortL (L := rcL n es q) (n := n) (by omega) (fun x hx => rcL_row g hg hx) (by have := rcL_len g; omega)
 have hK3 : ∀ k, K2 ≤ k → spec_l09Sort.f k (rcL n es q) = some (sortL (rcL n es q)) := hK2
 refine ⟨_, rfl, max K1 K2, fun k hk => ?_⟩
 have e : spec_RecurrentPiles.rows k (n : Int) es q (redL n es q) = rcL n es q := by
  unfold spec_RecurrentPiles.rows rcL
  refine List.map_congr_left fun x hx => ?_
  rw [hK1 k (by omega) x hx]
  rfl
 have hl := redL_len g
 show (if spec_RecurrentPiles.ok k (n : Int) es q (redL n es q) then _ else _) = _
 rw [if_pos ⟨fun x hx => by rw [hK1 k (by omega) x hx]; rfl, by omega⟩, e, hK3 k (by omega)]
 rfl
end
open Classical in
noncomputable def rcO (n : Int) (es : List E) (q : Int) : List (List Int) × Bool := if gOk n es = true ∧ (0 ≤ q ∧ q < n) ∧ dlap es (vsL n.toNat 0) ≤ 400 then (sortL (rcL n.toNat es q), true) else ([], false)
theorem implRc (n : Int) (es : List E) (q : Int) (hn : Wf .i64 n) : Ep (fun k => impl_RecurrentPiles.f k n es q) (· = rcO n es q) := by
 simp only [impl_RecurrentPiles.f]
 refine Ep.bind0 (isVertex_eq n es q hn) ?_
 unfold rcO
 by_cases c : gOk n es = true
 ·by_cases hq : 0 ≤ q ∧ q < n
  ·have hg := gOk_iff.1 c
   obtain ⟨m, rfl⟩ := Int.eq_ofNat_of_zero_le (show 0 ≤ n by omega)
   have g : Gr m es q := Gr.of hg hq
   simp only [Int.toNat_natCast]
   refine Ep.pos (by rw [c, decide_eq_true hq]; rfl) (Ep.bind (implGO hg) ?_)
   rintro _ rfl
   by_cases h4 : dlap es (vsL m 0) ≤ 400
   ·rw [if_pos ⟨c, hq, h4⟩]
    refine Ep.pos h4 (Ep.bind (implFull (m : Int) es q hn) ?_)
    rintro _ rfl
    refine Ep.bind (implRed g) ?_
    rintro _ rfl
    exact implRcL g hg
   ·rw [if_neg fun h => h4 h.2.2]
    exact Ep.neg h4 (Ep.now rfl)
  ·rw [if_neg fun h => hq h.2.1]
   exact Ep.neg (by rw [decide_eq_false hq]; simp) (Ep.now rfl)
 ·rw [if_neg fun h => c h.1]
  exact Ep.neg (by rw [Bool.eq_false_iff.2 c]; simp) (Ep.now rfl)
theorem specRc (n : Int) (es : List E) (q : Int) : Ep (fun k => spec_RecurrentPiles.f k n es q) (· = rcO n es q) := by
 simp only [spec_RecurrentPiles.f]
 refine Ep.bind (specGraph _ _) ?_
 rintro _ rfl
 unfold rcO
 by_cases c : gOk n es = true
 ·have hg := gOk_iff.1 c
  have hG := hg.1
  unfold EsOk at hG
  refine Ep.pos c (Ep.bind0 (l01In_eq _ _ _) ?_)
  rw [wrap_id (x := n - 1) (by omega) (by omega)]
  by_cases hq : 0 ≤ q ∧ q < n
  ·obtain ⟨m, rfl⟩ := Int.eq_ofNat_of_zero_le (show 0 ≤ n by omega)
   have g : Gr m es q := Gr.of hg hq
   simp only [Int.toNat_natCast]
   refine Ep.pos (decide_eq_true (by omega)) (Ep.bind (specGO hg) ?_)
   rintro _ rfl
   by_cases h4 : dlap es (vsL m 0) ≤ 400
   ·rw [if_pos ⟨c, hq, h4⟩]
    refine Ep.pos h4 (Ep.bind (specRed g) ?_)
    rintro _ rfl
    exact specRcL g hg
   ·rw [if_neg fun h => h4 h.2.2]
    exact Ep.neg h4 (Ep.now rfl)
  ·rw [if_neg fun h => hq h.2.1]
   exact Ep.neg (by rw [decide_eq_false (by omega)]; simp) (Ep.now rfl)
 ·rw [if_neg fun h => c h.1]
  exact Ep.neg c (Ep.now rfl)
end Go.Proofs.Ytnbljcgdgblgoaa.Cf
end

section
namespace Go.Proofs.Ytnbljcgdgblgoaa.Cf
set_option linter.unusedVariables false
set_option linter.unusedSimpArgs false
open Go.Proofs.YtnbljcgdgblgoaaW.PrintWords
theorem red_zero {n : Nat} {es : List E} (hj : Joined n es) {q : Int} (hq : 0 ≤ q ∧ q < n) {d : Int → Int} (hd : ∀ v : Int, 0 ≤ v → v < n → d v = 0) (hes : ∀ e ∈ es, EOk n e) : Red n es q d := by
 refine ⟨fun v h0 h1 _ => by rw [hd v h0 h1]; exact Int.le_refl _, fun S hS hx => ?_⟩
 obtain ⟨b, b0, b1, hb⟩ := hx
 have hc : Conn es q b := ((hj q hq.1 hq.2).symm).trans (hj b b0 b1)
 obtain ⟨u, w, hadj, hu, hw⟩ := exists_cut (S := fun x => S x = true) hc (by rw [hS]; simp) hb
 have hur := EsOk.adj hes hadj.symm
 refine ⟨u, hur.1, hur.2, hu, ?_⟩
 rw [hd u hur.1 hur.2]
 have hw' : S w = false := by simpa using hw
 have hnn : ∀ e ∈ es, 0 ≤ lapE (ind S) u e := by
  intro e _
  unfold lapE ind
  by_cases a : e.f0 = u
  ·by_cases b : e.f1 = u
   ·simp [a, b]
   ·rw [if_pos a, if_neg b, a, hu]
    cases S e.f1 <;> simp
  ·by_cases b : e.f1 = u
   ·rw [if_neg a, if_pos b, b, hu]
    cases S e.f0 <;> simp
   ·simp [a, b]
 obtain ⟨e, he, hx⟩ := hadj
 have h1 := sumE_term hnn he
 have h2 : 1 ≤ lapE (ind S) u e := by
  have hk := hes e he
  unfold EOk at hk
  unfold lapE ind
  rcases hx with ⟨x0, x1⟩ | ⟨x0, x1⟩
  ·rw [if_pos x0, if_neg (show ¬ e.f1 = u by omega), x0, x1, hu, hw']; simp
  ·rw [if_neg (show ¬ e.f0 = u by omega), if_pos x1, x0, x1, hu, hw']; simp
 unfold lap
 omega
def Mul (n : Nat) (es : List E) (a : List Int) (k : Int) (x : List Int) : Prop :=
 x.length = n ∧ Red n es 0 (rd x) ∧ ∃ s : Int → Int, ∀ v : Int, 0 ≤ v → v < n → rd x v = k * rd a v - lap es s v
theorem Mul.zero {n : Nat} {es : List E} {a : List Int} (hz : Red n es 0 (rd (List.replicate n 0))) : Mul n es a 0 (List.replicate n 0) :=
 ⟨by simp, hz, fun _ => 0, fun v _ _ => by rw [rd_replicate, lap_const (c := 0) (fun _ _ => ⟨rfl, rfl⟩)]; omega⟩
theorem Mul.add {n : Nat} {es : List E} {a c : List Int} {j k : Int} {x y : List Int} (hx : Mul n es a j x) (hy : Mul n es a k y) (hc : ∀ v : Int, 0 ≤ v → v < n → rd c v = rd x v + rd y v) {r : List Int × List Int} (h : Reduced n es 0 c r) : Mul n es a (j + k) r.1 := by
 obtain ⟨_, _, s, hs⟩ := hx
 obtain ⟨_, _, t, ht⟩ := hy
 refine ⟨h.1, h.2.2.1, fun v => s v + t v + rd r.2 v, fun v v0 v1 => ?_⟩
 rw [h.2.2.2.2 v v0 v1, hc v v0 v1, hs v v0 v1, ht v v0 v1, lap_add, lap_add, Int.add_mul]
 omega
end Go.Proofs.Ytnbljcgdgblgoaa.Cf
end

section
namespace Go.Proofs.Ytnbljcgdgblgoaa.Cf
set_option linter.unusedVariables false
set_option linter.unusedSimpArgs false
open Go.RowKit Go.Proofs.YtnbljcgdgblgoaaW.PrintWords Go.Proofs.Ytnbljcgdgblgoaa.P
def inE (b : List Int) (e : E) : Int := if e.f0 ∈ b ∧ e.f1 ∈ b then 1 else 0
theorem inE_app {n : Int} {e : E} (he : EOk n e) {b : List Int} {v : Int} (hv : v ∉ b) : inE (b ++ [v]) e = inE b e + lapE (ind fun x => decide (x ∉ b)) v e := by
 have hne : e.f0 ≠ e.f1 := by unfold EOk at he; omega
 unfold inE lapE ind
 simp only [List.mem_append, List.mem_singleton]
 by_cases a : e.f0 = v
 ·have b1 : e.f1 ≠ v := fun h => hne (a.trans h.symm)
  rw [a]
  by_cases c : e.f1 ∈ b <;> simp [hv, c, b1]
 ·by_cases b1 : e.f1 = v
  ·rw [b1]
   by_cases c : e.f0 ∈ b <;> simp [hv, c, a]
  ·simp [a, b1]
theorem burn_cnt {n : Nat} {es : List E} (hes : ∀ e ∈ es, EOk n e) {d : Int → Int} {q : Int} (hq : 0 ≤ q ∧ q < n) {b : List Int} (h : Burn n es d q b) : (b.map fun v => if v = q then 0 else d v + 1).sum ≤ sumE es (inE b) := by
 induction h with
 | start =>
  have : 0 ≤ sumE es (inE [q]) := sumE_nonneg fun e _ => by unfold inE; split <;> omega
  simpa using this
 | @step b v hb h0 h1 hv hlt ih =>
  have hok := hb.ok hq
  rw [burnSum_lap hes hok.1 hv] at hlt
  have e : sumE es (inE (b ++ [v])) = sumE es (inE b) + lap es (ind fun x => decide (x ∉ b)) v := by
   unfold lap
   rw [← sumE_add]
   exact sumE_congr fun e he => inE_app (hes e he) hv
  have hvq : v ≠ q := fun h => hv (h ▸ hok.2.2)
  rw [e, List.map_append, List.sum_append]
  simp only [List.map_cons, List.map_nil, List.sum_cons, List.sum_nil]
  rw [if_neg hvq]
  omega
theorem burn_mem {n : Nat} {es : List E} {d : Int → Int} {q : Int} (hq : 0 ≤ q ∧ q < n) {b : List Int} (h : Burn n es d q b) (hl : b.length = n) {v : Int} (h0 : 0 ≤ v) (h1 : v < n) : v ∈ b := by
 apply Classical.byContradiction
 intro hn
 have := nodup_len n (v :: b) (List.nodup_cons.2 ⟨hn, (h.ok hq).1⟩) (fun x hx => by
  rcases List.mem_cons.1 hx with rfl | hx
  ·exact ⟨h0, h1⟩
  ·exact (h.ok hq).2.1 x hx)
 simp at this
 omega
theorem zero_box {c : Nat → Nat} : ∀ {n : Nat}, (∀ v, v < n → 0 < c v) → List.replicate n (0 : Int) ∈ boxL c n
 | 0, _ => by show [] ∈ [[]]; exact List.mem_cons_self
 | n + 1, h => by
  rw [boxL, List.mem_flatMap]
  refine ⟨List.replicate n 0, zero_box fun v hv => h v (by omega), ?_⟩
  have := extB_mem (d := List.replicate n (0 : Int)) (h n (by omega))
  rw [List.replicate_succ']
  exact this
section
variable {n : Nat} {es : List E} {q : Int}
theorem sumN_off (hq : 0 ≤ q ∧ q < n) (c : Int) : sumN n (fun i => if (i : Int) = q then c else 0) = c := by
 obtain ⟨k, rfl⟩ := Int.eq_ofNat_of_zero_le hq.1
 refine Eq.trans (sumN_congr fun i _ => ?_) (sumN_one (n := n) k (by omega) c)
 by_cases e : i = k
 ·rw [if_pos e, if_pos (by omega)]
 ·rw [if_neg e, if_neg (by omega)]
theorem red_genus (g : Gr n es q) {x : List Int} (h : x ∈ redL n es q) : 0 ≤ x.sum ∧ x.sum ≤ (es.length : Int) - n + 1 := by
 have hq := g.hq
 obtain ⟨h1, h2⟩ := redL_mem h
 have hb := of_decide_eq_true (List.mem_filter.1 h).2
 have hB := (burnF_ok (es := es) (d := rd x) g.hq).1
 have hs := sum_rd n x h1
 have hx : ∀ i : Nat, i < n → 0 ≤ rd x (i : Int) := fun i hi => by
  rw [rd_get (show i < x.length by omega)]
  exact (h2 i (by omega)).1
 have hxq : rd x q = 0 := by
  have h3 := redL_q g h
  rw [← rd_nat, Int.toNat_of_nonneg (by omega)] at h3
  exact h3
 refine ⟨by rw [hs]; exact sumN_nonneg hx, ?_⟩
 have h3 := burn_cnt g.hes g.hq hB
 have h4 := sumE_len (es := es) (f := inE (burnF n es (rd x) q)) fun e _ => by unfold inE; split <;> omega
 have h5 := sum_pick (fun v => if v = q then 0 else rd x v + 1) n (burnF n es (rd x) q) (hB.ok g.hq).1 (hB.ok g.hq).2.1
 have h6 : sumN n (fun w => if (w : Int) ∈ burnF n es (rd x) q then (fun v => if v = q then 0 else rd x v + 1) (w : Int) else 0) = sumN n (fun i => rd x (i : Int) + ((fun _ => (1 : Int)) i + (if (i : Int) = q then -1 else 0))) := sumN_congr fun i hi => by
  rw [if_pos (burn_mem g.hq hB hb (by omega) (by omega))]
  show (if (i : Int) = q then 0 else rd x (i : Int) + 1) = rd x (i : Int) + (1 + if (i : Int) = q then -1 else 0)
  by_cases e : (i : Int) = q
  ·rw [if_pos e, if_pos e, e, hxq]
   rfl
  ·rw [if_neg e, if_neg e]
   omega
 rw [h6, sumN_add, sumN_add, sumN_const, sumN_off g.hq] at h5
 rw [← h5, ← hs] at h3
 omega
theorem val_cons (e : E) (es : List E) (v : Int) : val (e :: es) v = valE v e + val es v := sumE_cons e es (valE v)
theorem val_sum : ∀ {es : List E}, (∀ e ∈ es, EOk n e) → sumN n (fun i => val es (i : Int)) = 2 * (es.length : Int)
 | [], _ => by
  show sumN n (fun i => val [] (i : Int)) = 0
  exact (sumN_congr (g := fun _ => (0 : Int)) fun i _ => rfl).trans (sumN_zero n)
 | e :: es, h => by
  have he := h e List.mem_cons_self
  unfold EOk at he
  have ih := val_sum fun x hx => h x (List.mem_cons_of_mem _ hx)
  have e1 : sumN n (fun i => val (e :: es) (i : Int)) = sumN n (fun i => ((if (i : Int) = e.f0 then 1 else 0) + (if (i : Int) = e.f1 then 1 else 0)) + val es (i : Int)) := sumN_congr fun i _ => by
   rw [val_cons]
   unfold valE
   by_cases a : (i : Int) = e.f0
   ·rw [if_pos (Or.inl a.symm), if_pos a, if_neg (by omega)]
    rfl
   ·by_cases b : (i : Int) = e.f1
    ·rw [if_pos (Or.inr b.symm), if_neg a, if_pos b]
     rfl
    ·rw [if_neg (fun c => by rcases c with c | c; exact a c.symm; exact b c.symm), if_neg a, if_neg b]
     rfl
  rw [e1, sumN_add, sumN_add, sumN_off (q := e.f0) (by omega), sumN_off (q := e.f1) (by omega), ih, List.length_cons]
  omega
def levF (es : List E) (q : Int) (p : List Int) : Int := p.sum + val es q - (es.length : Int)
theorem rd_fullP (g : Gr n es q) (hg : GOk (n : Int) es) {i : Nat} (hi : i < n) : rd (fullP (n : Int) es q) (i : Int) = if (i : Int) = q then 0 else val es (i : Int) - 1 := by
 have hq := g.hq
 have e : fullP (n : Int) es q = fullL n es q := by
  unfold fullP
  rw [if_pos ⟨gOk_iff.2 hg, by omega, by omega⟩]
 rw [e, rd_nat]
 unfold fullL
 rw [List.getD_eq_getElem?_getD, List.getElem?_map, Int.toNat_natCast, List.getElem?_range hi]
 show fullAt (n : Int) es q i = _
 unfold fullAt
 rw [valG_in ⟨by omega, by omega⟩]
theorem rcR_sum (g : Gr n es q) (hg : GOk (n : Int) es) {x : List Int} (h : x ∈ redL n es q) : levF es q (rcR n es q x) = (es.length : Int) - n + 1 - x.sum ∧ Bd (rcR n es q x) 24 ∧ (rcR n es q x).length = n := by
 have hq := g.hq
 have hl := (redL_mem h).1
 have hf := fullP_ok g hg
 have hlen : (minL (fullP (n : Int) es q) x).length = n := by rw [minL_len]; exact hf.1
 have hs := sum_rd n _ hlen
 have hxs := sum_rd n x hl
 have hxq : rd x q = 0 := by
  have h3 := redL_q g h
  rw [← rd_nat, Int.toNat_of_nonneg (by omega)] at h3
  exact h3
 have h6 : sumN n (fun i => rd (minL (fullP (n : Int) es q) x) (i : Int)) = sumN n (fun i => ((val es (i : Int) + (-rd x (i : Int))) + (-1 : Int)) + (if (i : Int) = q then 1 - val es q else 0)) := sumN_congr fun i hi => by
  have h7 : rd (minL (fullP (n : Int) es q) x) (i : Int) = rd (fullP (n : Int) es q) (i : Int) - rd x (i : Int) := (repL_rep (fullP (n : Int) es q).length _).2 _ (by omega) (by omega)
  rw [h7, rd_fullP g hg hi]
  by_cases e : (i : Int) = q
  ·rw [if_pos e, if_pos e, e, hxq]
   omega
  ·rw [if_neg e, if_neg e]
   omega
 have h8 : sumN n (fun i => -rd x (i : Int)) = - x.sum := by
  have h9 := sumN_add n (fun i => -rd x (i : Int)) (fun i => rd x (i : Int))
  rw [sumN_congr (g := fun _ => 0) fun i _ => by omega, sumN_zero, ← hxs] at h9
  omega
 rw [h6, sumN_add, sumN_add, sumN_add, sumN_const, sumN_off g.hq, val_sum g.hes, h8] at hs
 rw [← rcR_min g hg h]
 refine ⟨?_, (minL_bd (by omega) hf.2 (red_Bd g h)).mono (by omega), hlen⟩
 unfold levF
 omega
def cntS (es : List E) (q : Int) (out p : List Int) : List Int := out.set (levF es q p).toNat (out.getD (levF es q p).toNat 0 + 1)
theorem cntS_len (es : List E) (q : Int) (out p : List Int) : (cntS es q out p).length = out.length := by unfold cntS; rw [List.length_set]
theorem cntS_fold (es : List E) (q : Int) : ∀ (R : List (List Int)) (out : List Int), (R.foldl (cntS es q) out).length = out.length
 | [], _ => rfl
 | p :: R, out => by rw [List.foldl_cons, cntS_fold es q R, cntS_len]
theorem cntS_bd {out p : List Int} {i : Int} (hb : ∀ j, 0 ≤ out.getD j 0 ∧ out.getD j 0 ≤ i) (j : Nat) : 0 ≤ (cntS es q out p).getD j 0 ∧ (cntS es q out p).getD j 0 ≤ i + 1 := by
 have h1 := hb j
 have h2 := hb (levF es q p).toNat
 unfold cntS
 rw [List.getD_eq_getElem?_getD, List.getElem?_set]
 by_cases e : (levF es q p).toNat = j
 ·rw [if_pos e]
  by_cases c : (levF es q p).toNat < out.length
  ·rw [if_pos c]
   simp only [Option.getD_some]
   omega
  ·rw [if_neg c]
   simp only [Option.getD_none]
   omega
 ·rw [if_neg e, ← List.getD_eq_getElem?_getD]
  omega
def LevOk (n : Nat) (es : List E) (q : Int) (m : Nat) (R : List (List Int)) : Prop := R.length ≤ 1000000 ∧ ∀ p ∈ R, p.length = n ∧ Bd p 24 ∧ 0 ≤ levF es q p ∧ levF es q p < m
theorem Bd.mod {p : List Int} (h : Bd p 24) : Mod p := fun y hy => by
 obtain ⟨j, hj, rfl⟩ := List.getElem_of_mem hy
 have := h (j : Int) (by omega) (by omega)
 rw [rd_get hj] at this
 omega
theorem lev_wrap (g : Gr n es q) {p : List Int} (hl : p.length = n) (hb : Bd p 24) : wrap64 (wrap64 (p.sum + valG (n : Int) es q) - (es.length : Int)) = levF es q p := by
 have h1 := sum_bd g.n6 hl (by omega) hb
 have h2 := val_le es q
 have h3 := val_nonneg es q
 have h4 := g.hel
 rw [valG_in g.hq, wrap_id (x := p.sum + val es q) (by omega) (by omega), wrap_id (by omega) (by omega)]
 rfl
theorem implLev_l0 (g : Gr n es q) {m : Nat} {R : List (List Int)} (hR : LevOk n es q m R) : ∀ (d i : Nat) (out : List Int), i + d = R.length → out.length = m → (∀ j, 0 ≤ out.getD j 0 ∧ out.getD j 0 ≤ (i : Int)) → Ep (fun k => impl_LevelCounts.l0 k q out R (R.length : Int) (i : Int) (n : Int) es) (· = ((R.drop i).foldl (cntS es q) out, true)) := by
 have hl := hR.1
 have h6 := g.n6
 have hel := g.hel
 intro d
 induction d with
 | zero =>
  intro i out hi hm hb
  refine Ep.up ?_
  simp only [impl_LevelCounts.l0]
  refine Ep.neg (by omega) (Ep.now ?_)
  rw [List.drop_eq_nil_of_le (by omega)]
  rfl
 | succ d ih =>
  intro i out hi hm hb
  have hlt : i < R.length := by omega
  obtain ⟨p1, p2, p3, p4⟩ := hR.2 _ (List.getElem_mem hlt)
  have er : rd_L3 R (i : Int) = R[i] := by
   unfold rd_L3
   rw [Int.toNat_natCast, List.getD_eq_getElem?_getD, List.getElem?_eq_getElem hlt]
   rfl
  have hw := lev_wrap g p1 p2
  have h1 := hb (levF es q R[i]).toNat
  have h2 := ih (i + 1) (cntS es q out R[i]) (by omega) (by rw [cntS_len]; exact hm) fun j => by have := cntS_bd (es := es) (q := q) (p := R[i]) hb j; omega
  refine Ep.up ?_
  simp only [impl_LevelCounts.l0]
  refine Ep.pos (by omega) (Ep.pos (by omega) (Ep.pos (by omega) ?_))
  rw [er]
  refine Ep.bind (implSum _ (by omega) p2.mod) ?_
  rintro _ rfl
  refine Ep.bind (implValence (n : Int) es q (by omega)) ?_
  rintro _ rfl
  have e3 : wrap64 (rd out (levF es q R[i]) + 1) = out.getD (levF es q R[i]).toNat 0 + 1 := by
   have h5 : rd out (levF es q R[i]) = out.getD (levF es q R[i]).toNat 0 := by
    obtain ⟨z, hz⟩ := Int.eq_ofNat_of_zero_le p3
    rw [hz, rd_nat, Int.toNat_natCast]
   rw [h5, wrap_id (by omega) (by omega)]
  rw [hw, e3, wrap_succ (by omega)]
  refine Ep.pos p3 (Ep.pos (by omega) (h2.mono ?_))
  intro r hr
  rw [hr, List.drop_eq_getElem_cons hlt]
  rfl
theorem specLev_l0 (g : Gr n es q) {m : Nat} {R : List (List Int)} (hR : LevOk n es q m R) : ∀ (d i : Nat) (out : List Int), i + d = R.length → out.length = m → (∀ j, 0 ≤ out.getD j 0 ∧ out.getD j 0 ≤ (i : Int)) → Ep (fun k => spec_LevelCounts.l0 k q out R (R.length : Int) (i : Int) (n : Int) es) (· = ((R.drop i).foldl (cntS es q) out, true)) := by
 have hl := hR.1
 have h6 := g.n6
 have hel := g.hel
 intro d
 induction d with
 | zero =>
  intro i out hi hm hb
  refine Ep.up ?_
  simp only [spec_LevelCounts.l0]
  refine Ep.neg (by omega) (Ep.now ?_)
  rw [List.drop_eq_nil_of_le (by omega)]
  rfl
 | succ d ih =>
  intro i out hi hm hb
  have hlt : i < R.length := by omega
  obtain ⟨p1, p2, p3, p4⟩ := hR.2 _ (List.getElem_mem hlt)
  have er : rd_L3 R (i : Int) = R[i] := by
   unfold rd_L3
   rw [Int.toNat_natCast, List.getD_eq_getElem?_getD, List.getElem?_eq_getElem hlt]
   rfl
  have hw := lev_wrap g p1 p2
  have h1 := hb (levF es q R[i]).toNat
  have h2 := ih (i + 1) (cntS es q out R[i]) (by omega) (by rw [cntS_len]; exact hm) fun j => by have := cntS_bd (es := es) (q := q) (p := R[i]) hb j; omega
  refine Ep.up ?_
  simp only [spec_LevelCounts.l0]
  refine Ep.pos (by omega) (Ep.pos (by omega) (Ep.pos (by omega) ?_))
  rw [er]
  refine Ep.bind (specSum _ (by omega) p2.mod) ?_
  rintro _ rfl
  refine Ep.bind (specValence (n : Int) es q (by omega)) ?_
  rintro _ rfl
  have e3 : wrap64 (rd out (levF es q R[i]) + 1) = out.getD (levF es q R[i]).toNat 0 + 1 := by
   have h5 : rd out (levF es q R[i]) = out.getD (levF es q R[i]).toNat 0 := by
    obtain ⟨z, hz⟩ := Int.eq_ofNat_of_zero_le p3
    rw [hz, rd_nat, Int.toNat_natCast]
   rw [h5, wrap_id (by omega) (by omega)]
  rw [hw, e3, wrap_succ (by omega)]
  refine Ep.pos p3 (Ep.pos (by omega) (h2.mono ?_))
  intro r hr
  rw [hr, List.drop_eq_getElem_cons hlt]
  rfl
theorem specGen (hg : GOk (n : Int) es) : Ep (fun k => spec_GenusOf.f k (n : Int) es) (· = (es.length : Int) - n + 1) := by
 have hG := hg.1
 unfold EsOk at hG
 simp only [spec_GenusOf.f]
 refine Ep.bind (specGraph _ _) ?_
 rintro _ rfl
 refine Ep.pos (gOk_iff.2 hg) (Ep.now ?_)
 rw [wrap_id (x := (es.length : Int) - n) (by omega) (by omega), wrap_id (by omega) (by omega)]
theorem implGen (hg : GOk (n : Int) es) : impl_GenusOf.f (n : Int) es = some ((es.length : Int) - n + 1) := by
 have hG := hg.1
 unfold EsOk at hG
 unfold impl_GenusOf.f
 rw [implGraph, gOk_iff.2 hg]
 simp only [Option.bind_some, if_true]
 rw [wrap_id (x := (es.length : Int) - n) (by omega) (by omega), wrap_id (by omega) (by omega)]
theorem genus_ge (g : Gr n es q) : 0 ≤ (es.length : Int) - n + 1 := by
 obtain ⟨x, hx⟩ : ∃ x, x ∈ redL n es q := by
  refine ⟨List.replicate n 0, List.mem_filter.2 ⟨?_, ?_⟩⟩
  ·exact zero_box fun v hv => cntP_pos g hv
  ·have hb := burnF_ok (es := es) (d := rd (List.replicate n 0)) g.hq
   refine decide_eq_true ?_
   have hlen := hb.1.len g.hq
   apply Classical.byContradiction
   intro hc
   have hr : Red n es q (rd (List.replicate n 0)) := red_zero g.hj g.hq (fun v h0 h1 => by
    obtain ⟨v, rfl⟩ := Int.eq_ofNat_of_zero_le h0
    rw [rd_nat, List.getD_eq_getElem?_getD, List.getElem?_replicate, if_pos (by omega)]
    rfl) g.hes
   obtain ⟨v, v0, v1, v2, v3⟩ := Red.burns g.hes g.hq hb.1 hr (by omega)
   have := hb.2 v v0 v1 v2
   omega
 have := red_genus g hx
 omega
def lcL (n : Nat) (es : List E) (q : Int) : List Int := (sortL (rcL n es q)).foldl (cntS es q) (List.replicate ((es.length : Int) - n + 1 + 1).toNat 0)
theorem rc_lev (g : Gr n es q) (hg : GOk (n : Int) es) : LevOk n es q ((es.length : Int) - n + 1 + 1).toNat (sortL (rcL n es q)) := by
 refine ⟨by rw [sortL_len]; have := rcL_len g; omega, fun p hp => ?_⟩
 obtain ⟨x, hx, rfl⟩ := List.mem_map.1 (sortL_mem.1 hp)
 obtain ⟨h1, h2, h3⟩ := rcR_sum g hg hx
 have h4 := red_genus g hx
 have h5 := genus_ge g
 exact ⟨h3, h2, by omega, by omega⟩
theorem lev_start (m : Nat) (j : Nat) : 0 ≤ (List.replicate m (0 : Int)).getD j 0 ∧ (List.replicate m (0 : Int)).getD j 0 ≤ ((0 : Nat) : Int) := by
 rw [List.getD_eq_getElem?_getD, List.getElem?_replicate]
 split <;> simp
end
open Classical in
noncomputable def lcO (n : Int) (es : List E) (q : Int) : List Int × Bool := if gOk n es = true ∧ (0 ≤ q ∧ q < n) ∧ dlap es (vsL n.toNat 0) ≤ 400 then (lcL n.toNat es q, true) else ([], false)
theorem implLc (n : Int) (es : List E) (q : Int) (hn : Wf .i64 n) : Ep (fun k => impl_LevelCounts.f k n es q) (· = lcO n es q) := by
 simp only [impl_LevelCounts.f]
 refine Ep.bind (implRc n es q hn) ?_
 rintro _ rfl
 unfold rcO lcO
 by_cases c : gOk n es = true ∧ (0 ≤ q ∧ q < n) ∧ dlap es (vsL n.toNat 0) ≤ 400
 ·rw [if_pos c, if_pos c]
  have hg := gOk_iff.1 c.1
  have hG := hg.1
  unfold EsOk at hG
  obtain ⟨m, rfl⟩ := Int.eq_ofNat_of_zero_le (show 0 ≤ n by omega)
  have g : Gr m es q := Gr.of hg c.2.1
  have hge := genus_ge g
  rw [Int.toNat_natCast]
  refine Ep.pos rfl (Ep.bind0 (implGen hg) ?_)
  rw [wrap_id (x := (es.length : Int) - m + 1 + 1) (by omega) (by omega)]
  refine Ep.pos (by omega) (Ep.pos (by omega) ?_)
  exact implLev_l0 g (rc_lev g hg) _ 0 _ (Nat.zero_add _) List.length_replicate (lev_start _)
 ·rw [if_neg c, if_neg c]
  exact Ep.neg (by simp) (Ep.now rfl)
theorem specLc (n : Int) (es : List E) (q : Int) : Ep (fun k => spec_LevelCounts.f k n es q) (· = lcO n es q) := by
 simp only [spec_LevelCounts.f]
 refine Ep.bind (specRc n es q) ?_
 rintro _ rfl
 unfold rcO lcO
 by_cases c : gOk n es = true ∧ (0 ≤ q ∧ q < n) ∧ dlap es (vsL n.toNat 0) ≤ 400
 ·rw [if_pos c, if_pos c]
  have hg := gOk_iff.1 c.1
  have hG := hg.1
  unfold EsOk at hG
  obtain ⟨m, rfl⟩ := Int.eq_ofNat_of_zero_le (show 0 ≤ n by omega)
  have g : Gr m es q := Gr.of hg c.2.1
  have hge := genus_ge g
  rw [Int.toNat_natCast]
  refine Ep.pos rfl (Ep.bind (specGen hg) ?_)
  rintro _ rfl
  rw [wrap_id (x := (es.length : Int) - m + 1 + 1) (by omega) (by omega)]
  refine Ep.pos (by omega) (Ep.pos (by omega) ?_)
  exact specLev_l0 g (rc_lev g hg) _ 0 _ (Nat.zero_add _) List.length_replicate (lev_start _)
 ·rw [if_neg c, if_neg c]
  exact Ep.neg (by simp) (Ep.now rfl)
theorem lcO_len (n : Int) (es : List E) (q : Int) : (lcO n es q).1.length ≤ 14 := by
 unfold lcO
 split
 ·rename_i c
  have hG := (gOk_iff.1 c.1).1
  unfold EsOk at hG
  show (lcL n.toNat es q).length ≤ _
  unfold lcL
  rw [cntS_fold, List.length_replicate]
  omega
 ·exact Nat.zero_le _
end Go.Proofs.Ytnbljcgdgblgoaa.Cf
end

section
namespace Go.Proofs.Ytnbljcgdgblgoaa.Cf
set_option linter.unusedVariables false
set_option linter.unusedSimpArgs false
open Go.RowKit Go.Proofs.YtnbljcgdgblgoaaW.PrintWords Go.Proofs.Ytnbljcgdgblgoaa.P
def EWf (e : E) : Prop := Wf .i64 e.f0 ∧ Wf .i64 e.f1
theorem rdLE_get {es : List E} {i : Nat} (h : i < es.length) : rd_T101 es (i : Int) = es[i] := by simp [rd_T101, List.getD, h]
theorem szGraph_ok (n : Int) (es : List E) (a : Int) (ha : 0 ≤ a ∧ a ≤ 1048576) (hl : es.length ≤ 9223372036854775807) : ∃ t, laws_szGraph.f n es a = some t ∧ t ≤ 1048576 ∧ (¬ t < 0 → es.length ≤ 1048576) := by
 unfold laws_szGraph.f laws_szEdgeS.f
 rw [wrap_id (by omega) (by omega)]
 by_cases h : a - (es.length : Int) < 0
 ·refine ⟨-1, ?_, by omega, by omega⟩
  rw [if_pos h]
  simp
 ·refine ⟨a - es.length, ?_, by omega, by omega⟩
  rw [if_neg h]
  simp only [Option.bind_some]
  rw [if_neg h]
theorem toEdgeS_l0 (x0 : List E) (h : x0.length ≤ 1048576) : ∀ (d i : Nat) (x3 : List E), i + d = x0.length → x3.length = x0.length → (∀ j, j < i → x3[j]? = x0[j]?) → Ep (fun k => laws_toEdgeS.l0 k x0 x3 (i : Int)) (· = x0) := by
 intro d
 induction d with
 | zero =>
  intro i x3 hi hl hx
  refine Ep.up ?_
  simp only [laws_toEdgeS.l0]
  refine Ep.neg (by omega) (Ep.now ?_)
  apply List.ext_getElem?
  intro j
  by_cases hj : j < i
  ·exact hx j hj
  ·rw [List.getElem?_eq_none (by omega), List.getElem?_eq_none (by omega)]
 | succ d ih =>
  intro i x3 hi hl hx
  have hlt : i < x0.length := by omega
  refine Ep.up ?_
  simp only [laws_toEdgeS.l0]
  refine Ep.pos (by omega) (Ep.pos (by omega) ?_)
  rw [rdLE_get hlt, wrap_succ (by omega)]
  refine Ep.bind0 rfl (Ep.pos (by omega) ?_)
  refine ih (i + 1) _ (by omega) (by simpa using hl) ?_
  intro j hj
  rw [Int.toNat_natCast]
  by_cases e : i = j
  ·subst e
   rw [List.getElem?_set_self (by omega), List.getElem?_eq_getElem (by omega)]
  ·rw [List.getElem?_set_ne e]
   exact hx j (by omega)
theorem toGraph_ok (n : Int) (es : List E) (h : es.length ≤ 1048576) : Ep (fun k => laws_toGraph.f k n es) (· = (n, es)) := by
 simp only [laws_toGraph.f, laws_toEdgeS.f]
 refine Ep.bind (P := (· = es)) (Ep.pos (by omega) (Ep.pos (by simp; omega) ?_)) ?_
 ·exact toEdgeS_l0 es h es.length 0 _ (by omega) (by simp) (fun j hj => by omega)
 ·rintro _ rfl
  exact Ep.now rfl
theorem eqEdge_ok (a b : Int) : laws_eqEdge.f a b a b = some true := by simp [laws_eqEdge.f]
theorem eqEdgeS_l0 (x : List E) (h : x.length ≤ 1048576) : ∀ (d i : Nat), i + d = x.length → Ep (fun k => laws_eqEdgeS.l0 k x x (i : Int)) (· = true) := by
 intro d
 induction d with
 | zero =>
  intro i hi
  refine Ep.up ?_
  simp only [laws_eqEdgeS.l0]
  exact Ep.neg (by omega) (Ep.now rfl)
 | succ d ih =>
  intro i hi
  refine Ep.up ?_
  simp only [laws_eqEdgeS.l0]
  refine Ep.pos (by omega) (Ep.pos (by omega) (Ep.pos (by omega) ?_))
  rw [wrap_succ (by omega)]
  exact Ep.bind0 (eqEdge_ok _ _) (Ep.pos rfl (ih (i + 1) (by omega)))
theorem eqGraph_ok (n : Int) (es : List E) (h : es.length ≤ 1048576) : Ep (fun k => laws_eqGraph.f k n es n es) (· = true) := by
 simp only [laws_eqGraph.f]
 refine Ep.pos trivial (Ep.bind (P := (· = true)) ?_ ?_)
 ·simp only [laws_eqEdgeS.f]
  exact Ep.pos trivial (eqEdgeS_l0 es h es.length 0 (by omega))
 ·rintro _ rfl
  exact Ep.pos rfl (Ep.now rfl)
theorem markEdgeS_l0 (n : Nat) (hn : n ≤ 1048576) {B : Int} (hB : B ≤ 1099511627776) : ∀ (d i : Nat) (x : List E) (a : Int), i + d = n → x.length = n → 0 ≤ a → a + 2 * d ≤ B → Ep (fun k => laws_markEdgeS.l0 k x a (i : Int)) (fun r => 0 ≤ r.1 ∧ r.1 ≤ B) := by
 intro d
 induction d with
 | zero =>
  intro i x a hi hx h0 ha
  refine Ep.up ?_
  simp only [laws_markEdgeS.l0]
  exact Ep.neg (by omega) (Ep.now ⟨h0, by omega⟩)
 | succ d ih =>
  intro i x a hi hx h0 ha
  refine Ep.up ?_
  simp only [laws_markEdgeS.l0]
  refine Ep.pos (by omega) (Ep.pos (by omega) (Ep.bind0 rfl ?_))
  rw [wrap_succ (by omega), wrap_id (x := a + 1) (by omega) (by omega), wrap_id (x := a + 1 + 1) (by omega) (by omega)]
  exact ih (i + 1) _ _ (by omega) (by simpa using hx) (by omega) (by omega)
theorem markGraph_ok (n : Int) (es : List E) (a : Int) (h : es.length ≤ 1048576) (ha : 0 ≤ a ∧ a ≤ 1000) : Ep (fun k => laws_markGraph.f k n es a) (fun r => 0 ≤ r.1 ∧ r.1 ≤ 3000000) := by
 have := markEdgeS_l0 es.length h (B := 3000000) (by omega) es.length 0 es a (by omega) rfl ha.1 (by omega)
 simp only [laws_markGraph.f, laws_markEdgeS.f]
 refine Ep.bind this ?_
 intro r hr
 exact Ep.now hr
theorem law_FnExactLevelCounts (n : Int) (es : List E) (q : Int) (hn : Wf .i64 n) (hes : SL EWf es) (wq : Wf .i64 q) : Ep (fun k => laws_FnExactLevelCounts.f k n es q) (· = true) := by
 have hr0 : ((lcO n es q).1).length ≤ 1048576 := by have := lcO_len n es q; omega
 simp only [laws_FnExactLevelCounts.f]
 obtain ⟨t, ht, _, h2⟩ := szGraph_ok n es 1048576 (by omega) hes.1
 refine Ep.bind0 ht (Ep.ite (fun _ => Ep.now rfl) (fun hc2 => ?_))
 have hel := h2 hc2
 repeat (first
  | exact Ep.now rfl
  | (refine Ep.bind (toGraph_ok _ _ hel) ?_; rintro _ rfl)
  | (refine Ep.bind (eqGraph_ok _ _ hel) ?_; rintro _ rfl)
  | (refine Ep.bind (eqIntS_ok _ hr0) ?_; rintro _ rfl)
  | (refine Ep.bind (specLc _ _ _) ?_; rintro _ rfl)
  | (refine Ep.bind (implLc _ _ _ hn) ?_; rintro _ rfl)
  | (refine Ep.bind (heldIntS_ok _ _ hr0 (by first | omega | (simp; omega))) ?_; rintro _ rfl)
  | (refine Ep.bind (markIntS_ok _ _ hr0 (by first | omega | (simp; omega))) ?_; rintro _ rfl)
  | (refine Ep.bind (markGraph_ok _ _ 1 hel (by omega)) ?_; intro r hr0_)
  | refine Ep.pos rfl ?_
  | refine Ep.pos trivial ?_
  | refine Ep.neg (by simp; omega) ?_
  | refine Ep.neg (by omega) ?_
  | refine Ep.neg (by simp) ?_
  | (refine Ep.up ?_; simp only [laws_FnExactLevelCounts.j0])
  | (refine Ep.up ?_; simp only [laws_FnExactLevelCounts.j1])
  | (refine Ep.up ?_; simp only [laws_FnExactLevelCounts.j2]))
end Go.Proofs.Ytnbljcgdgblgoaa.Cf
end

section
namespace Go.Proofs.Ytnbljcgdgblgoaa.Cf
set_option linter.unusedVariables false
set_option linter.unusedSimpArgs false
open Go.RowKit Go.ChangeShapes Go.WideShapes Go.Deep Go.Joins Go.Proofs.YtnbljcgdgblgoaaW.PrintWords
section
variable {H : Type} {enc : TypeId × Value → H} {P : Program} {w : World} {base : Nat} {spare : Nat → Bool} {held : Bool}
theorem trod_C {α : Type} {d : Kd α} {Q : α → Prop} (hd : Inhabited α) {t e : TypeId} {fuel : Nat} {cs : List Value} {x : DataW H × List MemPlace} (ht : P.underlying t = some (.slice e)) (hsz : P.cellsOf e = d.sz)
  (hel : ∀ (n : Nat) (cs : List Value) (y : DataW H × List MemPlace), DataW.trod enc P w base spare held n e cs = some y → ∃ a : α, d.K w a cs ∧ Q a)
  (h : DataW.trod enc P w base spare held fuel t cs = some x) : ∃ A len cap xs, cs = [.slice A len cap] ∧ xs.length = len ∧ len ≤ cap ∧ Kd.C d w A len xs ∧ SL Q xs := by
 rcases open_slice ht h with ⟨rfl, _⟩ | ⟨a, len, cap, m, n, D, Pl, rfl, _, hl, hm, hmm, _, hx⟩
 ·exact ⟨none, 0, 0, [], rfl, rfl, Nat.le_refl _, ⟨rfl, by omega, fun hn => by omega⟩, by simp, fun x hx => by cases hx⟩
 ·have hlm : len ≤ m := by rw [hmm]; split <;> omega
  obtain ⟨X, hX⟩ := choose_lt (α := α) (n := len) (p := fun i z => Q z ∧ ∃ c, c.length = d.sz ∧ d.K w z c ∧ ∀ j u, c[j]? = some u → w.cell? (a.add (i * d.sz + j)) = some u) (fun i hi => by
   obtain ⟨cs', h1, h2⟩ := hx i (by omega)
   obtain ⟨z, hz, hq⟩ := hel n cs' _ h2
   obtain ⟨_, hlen, hc⟩ := World.cells?_some h1
   refine ⟨z, hq, cs', by rw [hlen, hsz], hz, fun j u hj => ?_⟩
   have hjl : j < cs'.length := by
    apply Classical.byContradiction
    intro hc
    rw [List.getElem?_eq_none (by omega)] at hj
    cases hj
   have := hc j (by omega)
   rw [Deep.add_add, hsz] at this
   rw [this, hj])
  refine ⟨some a, len, cap, (List.range len).map X, rfl, by simp, hl, ⟨by simp, ?_, fun _ => ⟨a, rfl, fun j p hj => ?_⟩⟩, by simp; unfold maxLen at hm; omega, fun x hx => ?_⟩
  ·unfold maxLen at hm
   omega
  ·have hjl : j < len := by
    apply Classical.byContradiction
    intro hc
    rw [List.getElem?_eq_none (by simp; omega)] at hj
    cases hj
   have : p = X j := by
    rw [List.getElem?_eq_getElem (by simpa using hjl)] at hj
    simpa using hj.symm
   subst this
   exact (hX j hjl).2
  ·obtain ⟨i, hi, rfl⟩ := List.mem_map.1 hx
   exact (hX i (List.mem_range.1 hi)).1
theorem el_pair {k0 k1 : IntKind} {e : TypeId} {f0 f1 : Field} (he : P.underlying e = some (.struct #[f0, f1])) (ce : P.cellsOf e = 2) (o0 : f0.offset = 0) (o1 : f1.offset = 1) (c0 : P.cellsOf f0.type = 1) (c1 : P.cellsOf f1.type = 1)
  (u0 : P.underlying f0.type = some (.int k0)) (u1 : P.underlying f1.type = some (.int k1)) :
  ∀ (n : Nat) (cs : List Value) (y : DataW H × List MemPlace), DataW.trod enc P w base spare held n e cs = some y → ∃ a b : Int, cs = [.int k0 a, .int k1 b] ∧ Wf k0 a ∧ Wf k1 b := by
 intro n cs y h
 obtain ⟨y0, y1, m, _, hl, h0, h1⟩ := trod_struct2 he h
 rw [ce] at hl
 rw [o0, c0] at h0
 rw [o1, c1] at h1
 match cs, hl with
 | [a, b], _ =>
  obtain ⟨x, hx, _, wx⟩ := DataW.trod_int u0 h0
  obtain ⟨z, hz, _, wz⟩ := DataW.trod_int u1 h1
  simp at hx hz
  subst hx; subst hz
  exact ⟨x, z, rfl, wx, wz⟩
theorem arg_graph {α : Type} {d : Kd α} {Q : α → Prop} (hd : Inhabited α) {r : Reach} {b0 : Nat} {t e : TypeId} {f0 f1 : Field} {v : Value} {x : DataW H} {p : List MemPlace} (hs : P.underlying t = some (.struct #[f0, f1])) (hone : oneCellFields P #[f0, f1] = true) (hC : P.cellsOf t = 2)
  (u0 : P.underlying f0.type = some (.int .i64)) (u1 : P.underlying f1.type = some (.slice e)) (hsz : P.cellsOf e = d.sz)
  (hel : ∀ (n : Nat) (cs : List Value) (y : DataW H × List MemPlace), DataW.trod enc P w base spare held n e cs = some y → ∃ a : α, d.K w a cs ∧ Q a)
  (hv : Value.okWide P w r b0 t v) (h : DataW.Trod enc P w base spare held t v x p) : ∃ n a len cap, ∃ xs : List α, v = .agg #[.int .i64 n, .slice a len cap] ∧ Wf .i64 n ∧ xs.length = len ∧ len ≤ cap ∧ Kd.C d w a len xs ∧ SL Q xs := by
 obtain ⟨v0, v1, y0, y1, m, rfl, _, _, h0, h1⟩ := open_agg2 hs hone hC hv h
 obtain ⟨n, hn, _, hw⟩ := DataW.trod_int u0 h0
 obtain ⟨A, len, cap, xs, hcs, hl, hc, hx, hq⟩ := trod_C hd u1 hsz hel h1
 simp at hn hcs
 subst hn; subst hcs
 exact ⟨n, A, len, cap, xs, rfl, hw, hl, hc, hx, hq⟩
end
end Go.Proofs.Ytnbljcgdgblgoaa.Cf
end

section
namespace Go.Proofs.Ytnbljcgdgblgoaa.Cf
theorem and2 {a b : Bool} (h : a = true) (k : b = true) : (a && b) = true := by rw [h, k]; rfl
theorem iniS : Try.prog.initOrder.toList = ['h', 'a', 'r', 'n', 'e', 's', 's', ' ', '7', '7', 'e', '8', '6', '8', '8', '4', '3', '1', '7', '7', '9', '4', '0', '4', 'c', 'd', '0', 'c', 'e', '6', '8', '9', '8', 'd', '7', '5', '4', '5', '0', '2', '9', '1', 'f', 'e', 'f', '0', '4', 'e', '5', '4', '5', 'd', '0', '7', 'e', '5', '1', 'd', '3', '2', 'd', '9', 'b', 'a', '3', '9', 'a', '1', '2', '9', 'e', 'e', ' ', 'c', 'u', 't', ' ', 'a', 't', ' ', 'l', 'o', 'o', 'p', '.', 'e', 'x', 'a', 'm', 'p', 'l', 'e', '/', 'g', '0', '0', '8', '4', '1', '/', 'l', 'a', 'w', 's', '.', 'F', 'n', 'P', 'a', 'r', 'k', 'i', 'n', 'g', ' ', 'l', 'o', 'o', 'p', '.', 'e', 'x', 'a', 'm', 'p', 'l', 'e', '/', 'g', '0', '0', '8', '4', '1', '/', 'l', 'a', 'w', 's', '.', 'F', 'n', 'E', 'x', 'a', 'c', 't', 'P', 'a', 'r', 'k', 'i', 'n', 'g', 's', 'O', 'f', ' ', 'l', 'o', 'o', 'p', '.', 'e', 'x', 'a', 'm', 'p', 'l', 'e', '/', 'g', '0', '0', '8', '4', '1', '/', 'l', 'a', 'w', 's', '.', 'F', 'n', 'E', 'x', 'a', 'c', 't', 'C', 'l', 'a', 's', 's', 'e', 's', 'O', 'f', ' ', 'l', 'o', 'o', 'p', '.', 'e', 'x', 'a', 'm', 'p', 'l', 'e', '/', 'g', '0', '0', '8', '4', '1', '/', 'l', 'a', 'w', 's', '.', 'F', 'n', 'E', 'x', 'a', 'c', 't', 'R', 'e', 'c', 'u', 'r', 'r', 'e', 'n', 't', 'P', 'i', 'l', 'e', 's', ' ', 'l', 'o', 'o', 'p', '.', 'e', 'x', 'a', 'm', 'p', 'l', 'e', '/', 'g', '0', '0', '8', '4', '1', '/', 'l', 'a', 'w', 's', '.', 'F', 'n', 'E', 'x', 'a', 'c', 't', 'L', 'e', 'v', 'e', 'l', 'C', 'o', 'u', 'n', 't', 's'] := by
 have h : Try.prog.initOrder = String.ofList ['h', 'a', 'r', 'n', 'e', 's', 's', ' ', '7', '7', 'e', '8', '6', '8', '8', '4', '3', '1', '7', '7', '9', '4', '0', '4', 'c', 'd', '0', 'c', 'e', '6', '8', '9', '8', 'd', '7', '5', '4', '5', '0', '2', '9', '1', 'f', 'e', 'f', '0', '4', 'e', '5', '4', '5', 'd', '0', '7', 'e', '5', '1', 'd', '3', '2', 'd', '9', 'b', 'a', '3', '9', 'a', '1', '2', '9', 'e', 'e', ' ', 'c', 'u', 't', ' ', 'a', 't', ' ', 'l', 'o', 'o', 'p', '.', 'e', 'x', 'a', 'm', 'p', 'l', 'e', '/', 'g', '0', '0', '8', '4', '1', '/', 'l', 'a', 'w', 's', '.', 'F', 'n', 'P', 'a', 'r', 'k', 'i', 'n', 'g', ' ', 'l', 'o', 'o', 'p', '.', 'e', 'x', 'a', 'm', 'p', 'l', 'e', '/', 'g', '0', '0', '8', '4', '1', '/', 'l', 'a', 'w', 's', '.', 'F', 'n', 'E', 'x', 'a', 'c', 't', 'P', 'a', 'r', 'k', 'i', 'n', 'g', 's', 'O', 'f', ' ', 'l', 'o', 'o', 'p', '.', 'e', 'x', 'a', 'm', 'p', 'l', 'e', '/', 'g', '0', '0', '8', '4', '1', '/', 'l', 'a', 'w', 's', '.', 'F', 'n', 'E', 'x', 'a', 'c', 't', 'C', 'l', 'a', 's', 's', 'e', 's', 'O', 'f', ' ', 'l', 'o', 'o', 'p', '.', 'e', 'x', 'a', 'm', 'p', 'l', 'e', '/', 'g', '0', '0', '8', '4', '1', '/', 'l', 'a', 'w', 's', '.', 'F', 'n', 'E', 'x', 'a', 'c', 't', 'R', 'e', 'c', 'u', 'r', 'r', 'e', 'n', 't', 'P', 'i', 'l', 'e', 's', ' ', 'l', 'o', 'o', 'p', '.', 'e', 'x', 'a', 'm', 'p', 'l', 'e', '/', 'g', '0', '0', '8', '4', '1', '/', 'l', 'a', 'w', 's', '.', 'F', 'n', 'E', 'x', 'a', 'c', 't', 'L', 'e', 'v', 'e', 'l', 'C', 'o', 'u', 'n', 't', 's'] := by kernel_rfl
 exact (congrArg String.toList h).trans String.toList_ofList
theorem iniW : behindMainWord (wordsSigns Try.prog.initOrder.toList) = [['c', 'u', 't'], ['a', 't'], ['l', 'o', 'o', 'p', '.', 'e', 'x', 'a', 'm', 'p', 'l', 'e', '/', 'g', '0', '0', '8', '4', '1', '/', 'l', 'a', 'w', 's', '.', 'F', 'n', 'P', 'a', 'r', 'k', 'i', 'n', 'g'], ['l', 'o', 'o', 'p', '.', 'e', 'x', 'a', 'm', 'p', 'l', 'e', '/', 'g', '0', '0', '8', '4', '1', '/', 'l', 'a', 'w', 's', '.', 'F', 'n', 'E', 'x', 'a', 'c', 't', 'P', 'a', 'r', 'k', 'i', 'n', 'g', 's', 'O', 'f'], ['l', 'o', 'o', 'p', '.', 'e', 'x', 'a', 'm', 'p', 'l', 'e', '/', 'g', '0', '0', '8', '4', '1', '/', 'l', 'a', 'w', 's', '.', 'F', 'n', 'E', 'x', 'a', 'c', 't', 'C', 'l', 'a', 's', 's', 'e', 's', 'O', 'f'], ['l', 'o', 'o', 'p', '.', 'e', 'x', 'a', 'm', 'p', 'l', 'e', '/', 'g', '0', '0', '8', '4', '1', '/', 'l', 'a', 'w', 's', '.', 'F', 'n', 'E', 'x', 'a', 'c', 't', 'R', 'e', 'c', 'u', 'r', 'r', 'e', 'n', 't', 'P', 'i', 'l', 'e', 's'], ['l', 'o', 'o', 'p', '.', 'e', 'x', 'a', 'm', 'p', 'l', 'e', '/', 'g', '0', '0', '8', '4', '1', '/', 'l', 'a', 'w', 's', '.', 'F', 'n', 'E', 'x', 'a', 'c', 't', 'L', 'e', 'v', 'e', 'l', 'C', 'o', 'u', 'n', 't', 's']] := (congrArg (fun x => behindMainWord (wordsSigns x)) iniS).trans (by kernel_rfl)
theorem mk_cut {P : Program} {r : List (List Char)} (h : behindMainWord (wordsSigns P.initOrder.toList) = ['c', 'u', 't'] :: r) : P.make = some .cut := by
 unfold Program.make
 rw [h]
 rfl
theorem lf_cut {P : Program} {r : List (List Char)} (h : behindMainWord (wordsSigns P.initOrder.toList) = ['c', 'u', 't'] :: r) (k : (stripLifts liftWords (['c', 'u', 't'] :: r)).1 = []) : P.liftsFinal = false := by
 unfold Program.liftsFinal Program.headLifts
 rw [h]
 simp [k]
theorem en_cut {P : Program} {r : List (List Char)} (h : behindMainWord (wordsSigns P.initOrder.toList) = ['c', 'u', 't'] :: r) (k1 : (stripLifts liftWords (['c', 'u', 't'] :: r)).1 = []) (k2 : ((stripLifts liftWords (['c', 'u', 't'] :: r)).2.head? == some "cut".toList) = true) (h1 : P.laysLater = false) (h2 : P.bearsReflect = false) (h3 : P.doorFits [] = true) : P.mayEnter = true := by
 unfold Program.mayEnter
 rw [h]
 simp only [k1, k2, h1, h2, h3]
 simp
theorem make : Try.prog.make = some .cut := mk_cut iniW
theorem lifted : Try.prog.liftsFinal = false := lf_cut iniW (by kernel_rfl)
theorem enter : Try.prog.mayEnter = true := en_cut iniW (by kernel_rfl) (by kernel_rfl) (by kernel_rfl) (by kernel_rfl) (by kernel_rfl)
end Go.Proofs.Ytnbljcgdgblgoaa.Cf
end

