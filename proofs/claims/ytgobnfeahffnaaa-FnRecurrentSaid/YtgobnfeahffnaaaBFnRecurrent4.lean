/- A part of the proof of FnRecurrent. -/
import Derived.Test.YtgobnfeahffnaaaBFnRecurrent3
import Derived.Test.YtgobnfeahffnaaaBFnRecurrent0
import Derived.Test.YtgobnfeahffnaaaBFnRecurrent2
import Derived.Test.YtgobnfeahffnaaaBFnRecurrent1
import Derived.Deep.Slices
import Derived.Lib.SmallJoins
import Derived.ChangeSame
import Derived.Test.YtgobnfeahffnaaaRows
import Derived.JoinedOf
import Derived.KernelRfl
section
namespace Go.Proofs.Ytgobnfeahffnaaa.Cf
set_option linter.unusedVariables false
set_option linter.unusedSimpArgs false
open Go.Proofs.YtgobnfeahffnaaaW.PrintWords
theorem unst_ok (n : Int) (es : List E) (q : Int) (p : List Int) : ∀ (d i : Nat), (unst n es q p d i = -1 ∧ ∀ j : Nat, i ≤ j → j < i + d → (j : Int) ≠ q → rd p (j : Int) < valG n es j) ∨ ((i : Int) ≤ unst n es q p d i ∧ unst n es q p d i < i + d ∧ unst n es q p d i ≠ q ∧ valG n es (unst n es q p d i) ≤ rd p (unst n es q p d i))
  | 0, i => .inl ⟨rfl, fun j h0 h1 => by omega⟩
  | d + 1, i => by
    unfold unst
    have ih := unst_ok n es q p d (i + 1)
    by_cases h : (i : Int) = q
    · rw [if_pos h]
      rcases ih with ⟨h1, h2⟩ | ⟨h1, h2, h3⟩
      · refine .inl ⟨h1, fun j h3 h4 h5 => ?_⟩
        by_cases e : j = i
        · subst e; exact absurd h h5
        · exact h2 j (by omega) (by omega) h5
      · exact .inr ⟨by omega, by omega, h3⟩
    · rw [if_neg h]
      by_cases h2 : rd p i ≥ valG n es i
      · rw [if_pos h2]
        exact .inr ⟨by omega, by omega, h, h2⟩
      · rw [if_neg h2]
        rcases ih with ⟨h1, h3⟩ | ⟨h1, h3, h4⟩
        · refine .inl ⟨h1, fun j k1 k2 k3 => ?_⟩
          by_cases e : j = i
          · subst e; omega
          · exact h3 j (by omega) (by omega) k3
        · exact .inr ⟨by omega, by omega, h4⟩
theorem valG_in {n : Int} {es : List E} {v : Int} (h : 0 ≤ v ∧ v < n) : valG n es v = val es v := by
  unfold valG
  rw [if_pos h]
/-- No vertex is unstable: the configuration is stable. -/
theorem unst_neg {n : Nat} {es : List E} {q : Int} {p : List Int} (hp : p.length = n) (h : unst n es q p p.length 0 < 0) : Stable n es q (rd p) := by
  intro v h0 h1 hv
  rcases unst_ok n es q p p.length 0 with ⟨_, h2⟩ | ⟨h2, _⟩
  · have := h2 v.toNat (by omega) (by omega) (by omega)
    have e : ((v.toNat : Nat) : Int) = v := by omega
    rw [e, valG_in ⟨h0, h1⟩] at this
    exact this
  · omega
theorem unst_pos {n : Nat} {es : List E} {q : Int} {p : List Int} (hp : p.length = n) (h : ¬ unst n es q p p.length 0 < 0) : 0 ≤ unst n es q p p.length 0 ∧ unst n es q p p.length 0 < n ∧ unst n es q p p.length 0 ≠ q ∧ val es (unst n es q p p.length 0) ≤ rd p (unst n es q p p.length 0) := by
  rcases unst_ok n es q p p.length 0 with ⟨h1, _⟩ | ⟨h1, h2, h3, h4⟩
  · omega
  · refine ⟨by omega, by omega, h3, ?_⟩
    rw [valG_in ⟨by omega, by omega⟩] at h4
    exact h4
/-- The first vertex in debt, from one on; or -1. -/
def debtF (q : Int) (p : List Int) : Nat → Nat → Int
  | 0, _ => -1
  | d + 1, i => if (i : Int) = q then debtF q p d (i + 1) else if rd p i < 0 then i else debtF q p d (i + 1)
theorem debtF_ok (q : Int) (p : List Int) : ∀ (d i : Nat), (debtF q p d i = -1 ∧ ∀ j : Nat, i ≤ j → j < i + d → (j : Int) ≠ q → 0 ≤ rd p (j : Int)) ∨ ((i : Int) ≤ debtF q p d i ∧ debtF q p d i < i + d ∧ debtF q p d i ≠ q ∧ rd p (debtF q p d i) < 0)
  | 0, i => .inl ⟨rfl, fun j h0 h1 => by omega⟩
  | d + 1, i => by
    unfold debtF
    have ih := debtF_ok q p d (i + 1)
    by_cases h : (i : Int) = q
    · rw [if_pos h]
      rcases ih with ⟨h1, h2⟩ | ⟨h1, h2, h3⟩
      · refine .inl ⟨h1, fun j h3 h4 h5 => ?_⟩
        by_cases e : j = i
        · subst e; exact absurd h h5
        · exact h2 j (by omega) (by omega) h5
      · exact .inr ⟨by omega, by omega, h3⟩
    · rw [if_neg h]
      by_cases h2 : rd p i < 0
      · rw [if_pos h2]
        exact .inr ⟨by omega, by omega, h, h2⟩
      · rw [if_neg h2]
        rcases ih with ⟨h1, h3⟩ | ⟨h1, h3, h4⟩
        · refine .inl ⟨h1, fun j k1 k2 k3 => ?_⟩
          by_cases e : j = i
          · subst e; omega
          · exact h3 j (by omega) (by omega) k3
        · exact .inr ⟨by omega, by omega, h4⟩
theorem debt_neg {n : Nat} {q : Int} {p : List Int} (hp : p.length = n) (h : debtF q p p.length 0 < 0) : ∀ v : Int, 0 ≤ v → v < n → v ≠ q → 0 ≤ rd p v := by
  intro v h0 h1 hv
  rcases debtF_ok q p p.length 0 with ⟨_, h2⟩ | ⟨h2, _⟩
  · have := h2 v.toNat (by omega) (by omega) (by omega)
    have e : ((v.toNat : Nat) : Int) = v := by omega
    rw [e] at this
    exact this
  · omega
theorem debt_pos {n : Nat} {q : Int} {p : List Int} (hp : p.length = n) (h : ¬ debtF q p p.length 0 < 0) : 0 ≤ debtF q p p.length 0 ∧ debtF q p p.length 0 < n ∧ debtF q p p.length 0 ≠ q ∧ rd p (debtF q p p.length 0) < 0 := by
  rcases debtF_ok q p p.length 0 with ⟨h1, _⟩ | ⟨h1, h2, h3⟩
  · omega
  · exact ⟨by omega, by omega, h3⟩
/-- The edges to what burns, counted over all vertices. -/
theorem sum_pick (f : Int → Int) (n : Nat) : ∀ (b : List Int), b.Nodup → (∀ v ∈ b, 0 ≤ v ∧ v < n) → sumN n (fun w => if (w : Int) ∈ b then f w else 0) = (b.map f).sum
  | [], _, _ => by simp [sumN_zero]
  | a :: r, hb, hr => by
    have ha := hr a List.mem_cons_self
    rw [List.map_cons, List.sum_cons, ← sum_pick f n r (List.nodup_cons.1 hb).2 (fun v hv => hr v (List.mem_cons_of_mem _ hv)), ← sumN_one (n := n) a.toNat (by omega) (f a), ← sumN_add]
    apply sumN_congr
    intro i hi
    by_cases e : i = a.toNat
    · have e' : (i : Int) = a := by omega
      rw [if_pos e, e', if_pos List.mem_cons_self, if_neg (List.nodup_cons.1 hb).1]
      omega
    · have e' : (i : Int) ≠ a := by omega
      rw [if_neg e]
      simp [e']
end Go.Proofs.Ytgobnfeahffnaaa.Cf
end

section
namespace Go.Proofs.Ytgobnfeahffnaaa.P
open Go.RowKit Go.Proofs.YtgobnfeahffnaaaW.PrintWords Go.Proofs.YtgobnfeahffnaaaW.PrintLast Go.Proofs.YtgobnfeahffnaaaW.PrintMore
attribute [local go_sem] max2_int min2_int max_two min_two max_three min_three max_four min_four
set_option linter.unusedVariables false
set_option linter.unusedSimpArgs false
def spec_l04Fire.l0 : Nat → List Int → List Int → List (S83) → Int → Int → Option (List Int)
 | 0, _, _, _, _, _ => none
 | k + 1, x2, x7, x14, x15, x16 => if x16 < x15 then (if 0 ≤ x16 then (if x16 < (x14.length : Int) then (if 0 ≤ ((rd_T83 x14 x16).f0) then (if ((rd_T83 x14 x16).f0) < (x7.length : Int) then (if ((rd_T83 x14 x16).f0) < (x2.length : Int) then (if 0 ≤ ((rd_T83 x14 x16).f1) then (if ((rd_T83 x14 x16).f1) < (x2.length : Int) then ((some (x7.set (((rd_T83 x14 x16).f0) : Int).toNat (wrap64 ((wrap64 ((rd x7 ((rd_T83 x14 x16).f0)) - (rd x2 ((rd_T83 x14 x16).f0)))) + (rd x2 ((rd_T83 x14 x16).f1)))) : List Int)).bind fun y113 => (if ((rd_T83 x14 x16).f1) < (x7.length : Int) then (spec_l04Fire.l0 k x2 (y113.set (((rd_T83 x14 x16).f1) : Int).toNat (wrap64 ((wrap64 ((rd y113 ((rd_T83 x14 x16).f1)) - (rd x2 ((rd_T83 x14 x16).f1)))) + (rd x2 ((rd_T83 x14 x16).f0))))) x14 x15 (wrap64 (x16 + 1))) else (none))) else (none)) else (none)) else (none)) else (none)) else (none)) else (none)) else (none)) else (some x7)
def spec_l04Fire.f (k : Nat) (a0_0 : Int) (l0_1 : List (S83)) (l1 : List Int) (l2 : List Int) : Option (List Int) := (some (([] : List Int) : List Int)).bind fun y102 => (if y102.length + l1.length < 17592186044416 then (spec_l04Fire.l0 k l2 (y102 ++ l1) l0_1 (l0_1.length : Int) 0) else (none))
theorem spec_l04Fire.mono_l : ∀ k, (∀ y0 y1 y2 y3 y4, LeO (spec_l04Fire.l0 k y0 y1 y2 y3 y4) (spec_l04Fire.l0 (k + 1) y0 y1 y2 y3 y4))
 | 0 => fun _ _ _ _ _ r h => by simp [spec_l04Fire.l0] at h
 | k + 1 => by
  have ih0 := spec_l04Fire.mono_l k
  ·intro y0 y1 y2 y3 y4
   unfold spec_l04Fire.l0
   exact zm0
theorem spec_l04Fire.mono : ∀ a0 a1 a2 a3 k, LeO (spec_l04Fire.f k a0 a1 a2 a3) (spec_l04Fire.f (k + 1) a0 a1 a2 a3) := by
 intro a0 a1 a2 a3 k; have ih0 := spec_l04Fire.mono_l k; unfold spec_l04Fire.f; exact zm0
end Go.Proofs.Ytgobnfeahffnaaa.P
end

section
namespace Go.Proofs.Ytgobnfeahffnaaa.Cf
set_option linter.unusedVariables false
set_option linter.unusedSimpArgs false
open Go.RowKit Go.Proofs.YtgobnfeahffnaaaW.PrintWords Go.Proofs.Ytgobnfeahffnaaa.P
theorem specFire_l0 (n : Nat) (es : List E) (hes : ∀ e ∈ es, EOk n e) (hel : es.length ≤ 12) (d s : List Int) (hd : d.length = n) (hs : s.length = n) {B K : Int} (hK : 0 ≤ K ∧ 0 ≤ B) (hbd : Bd d B) (hbs : Bd s K) (hB : B + 24 * K ≤ 4611686018427387904) :
    ∀ (k i : Nat) (x : List Int), i + k = es.length → Less (es.take i) d (rd s) x → Bd x (B + 2 * K * i) → Ep (fun r => spec_l04Fire.l0 r s x es (es.length : Int) (i : Int)) (fun r => Less es d (rd s) r ∧ Bd r (B + 24 * K)) := by
  intro k
  induction k with
  | zero =>
    intro i x hi hx hb
    obtain rfl : i = es.length := by omega
    refine Ep.up ?_
    simp only [spec_l04Fire.l0]
    refine Ep.neg (by omega) (Ep.now ⟨?_, hb.mono ?_⟩)
    · rw [List.take_length] at hx
      exact hx
    · have : 2 * K * (es.length : Int) ≤ 2 * K * 12 := Int.mul_le_mul_of_nonneg_left (by omega) (by omega)
      omega
  | succ k ih =>
    intro i x hi hx hb
    have hlt : i < es.length := by omega
    have he := hes _ (List.getElem_mem hlt)
    unfold EOk at he
    have hxl : x.length = n := hx.1.trans hd
    have hi12 : 2 * K * (i : Int) ≤ 2 * K * 12 := Int.mul_le_mul_of_nonneg_left (by omega) (by omega)
    have ba := hb es[i].f0 (by omega) (by omega)
    have bb := hb es[i].f1 (by omega) (by omega)
    have sa := hbs es[i].f0 (by omega) (by omega)
    have sb := hbs es[i].f1 (by omega) (by omega)
    refine Ep.up ?_
    simp only [spec_l04Fire.l0]
    refine Ep.pos (by omega) (Ep.pos (by omega) (Ep.pos (by omega) ?_))
    rw [rdE_get hlt, wrap_succ (by omega)]
    refine Ep.pos (by omega) (Ep.pos (by omega) (Ep.pos (by omega) (Ep.pos (by omega) (Ep.pos (by omega) (Ep.bind0 rfl (Ep.pos (by omega) ?_))))))
    rw [rd_set (x := x) (by omega) (by omega) _ (w := es[i].f1) (by omega), if_neg (by omega), wrap_id (x := rd x es[i].f0 - rd s es[i].f0) (by omega) (by omega), wrap_id (x := rd x es[i].f0 - rd s es[i].f0 + rd s es[i].f1) (by omega) (by omega), wrap_id (x := rd x es[i].f1 - rd s es[i].f1) (by omega) (by omega), wrap_id (x := rd x es[i].f1 - rd s es[i].f1 + rd s es[i].f0) (by omega) (by omega)]
    have key : ∀ w : Int, 0 ≤ w → w < n → rd ((x.set es[i].f0.toNat (rd x es[i].f0 - rd s es[i].f0 + rd s es[i].f1)).set es[i].f1.toNat (rd x es[i].f1 - rd s es[i].f1 + rd s es[i].f0)) w = rd x w - lapE (rd s) w es[i] := by
      intro w h0 h1
      rw [rd_set (by omega) (by rw [List.length_set]; omega) _ h0, rd_set (by omega) (by omega) _ h0]
      unfold lapE
      by_cases c1 : w = es[i].f1
      · rw [if_pos c1, if_neg (by omega), if_pos c1.symm, c1]
        omega
      · rw [if_neg c1]
        by_cases c0 : w = es[i].f0
        · rw [if_pos c0, if_pos c0.symm, if_neg (by omega), c0]
          omega
        · rw [if_neg c0, if_neg (by omega), if_neg (by omega)]
          omega
    refine ih (i + 1) _ (by omega) ⟨by simp [hx.1], ?_⟩ ?_
    · intro w h0 h1
      rw [key w h0 (by omega), hx.2 w h0 h1, lap_take hlt]
      omega
    · intro w h0 h1
      have h1' : w < n := by simpa [hxl] using h1
      rw [key w h0 h1']
      have := hb w h0 (by omega)
      have e : 2 * K * ((i + 1 : Nat) : Int) = 2 * K * (i : Int) + 2 * K := by
        rw [Int.natCast_add, Int.mul_add]
        omega
      rw [e]
      unfold lapE
      split <;> split <;> omega
theorem specFire (n : Nat) (hn : n ≤ 6) (es : List E) (hes : ∀ e ∈ es, EOk n e) (hel : es.length ≤ 12) (d s : List Int) (hd : d.length = n) (hs : s.length = n) {B K : Int} (hK : 0 ≤ K ∧ 0 ≤ B) (hbd : Bd d B) (hbs : Bd s K) (hB : B + 24 * K ≤ 4611686018427387904) :
    Ep (fun r => spec_l04Fire.f r (n : Int) es d s) (fun r => Less es d (rd s) r ∧ Bd r (B + 24 * K)) := by
  simp only [spec_l04Fire.f]
  refine Ep.bind0 rfl (Ep.pos (by simp; omega) ?_)
  refine specFire_l0 n es hes hel d s hd hs hK hbd hbs hB es.length 0 _ (by omega) ⟨rfl, fun w _ _ => ?_⟩ ?_
  · simp [lap, sumE]
  · simpa using hbd
theorem implFire_l0 (n : Nat) (es : List E) (hes : ∀ e ∈ es, EOk n e) (hel : es.length ≤ 12) (d : List Int) (v t : Int) (hd : d.length = n) (hv : 0 ≤ v ∧ v < n) {B K : Int} (hK : 0 ≤ K ∧ 0 ≤ B) (hbd : Bd d B) (ht : -K ≤ t ∧ t ≤ K) (hB : B + 12 * K ≤ 4611686018427387904) :
    ∀ (k i : Nat) (x : List Int), i + k = es.length → Less (es.take i) d (one v t) x → Bd x (B + K * i) → Ep (fun r => impl_fire.l0 r x v t es (es.length : Int) (i : Int)) (fun r => Less es d (one v t) r ∧ Bd r (B + 12 * K)) := by
  intro k
  induction k with
  | zero =>
    intro i x hi hx hb
    obtain rfl : i = es.length := by omega
    refine Ep.up ?_
    simp only [impl_fire.l0]
    refine Ep.neg (by omega) (Ep.now ⟨?_, hb.mono ?_⟩)
    · rw [List.take_length] at hx
      exact hx
    · have : K * (es.length : Int) ≤ K * 12 := Int.mul_le_mul_of_nonneg_left (by omega) (by omega)
      omega
  | succ k ih =>
    intro i x hi hx hb
    have hlt : i < es.length := by omega
    have he := hes _ (List.getElem_mem hlt)
    unfold EOk at he
    have hxl : x.length = n := hx.1.trans hd
    have hi12 : K * (i : Int) ≤ K * 12 := Int.mul_le_mul_of_nonneg_left (by omega) (by omega)
    have ba := hb es[i].f0 (by omega) (by omega)
    have bb := hb es[i].f1 (by omega) (by omega)
    have e1 : K * ((i + 1 : Nat) : Int) = K * (i : Int) + K := by
      rw [Int.natCast_add, Int.mul_add]
      omega
    have fin : ∀ x' : List Int, x'.length = x.length → (∀ w : Int, 0 ≤ w → w < n → rd x' w = rd x w - lapE (one v t) w es[i]) → Ep (fun r => impl_fire.l0 r x' v t es (es.length : Int) ((i + 1 : Nat) : Int)) (fun r => Less es d (one v t) r ∧ Bd r (B + 12 * K)) := by
      intro x' hl' key
      refine ih (i + 1) _ (by omega) ⟨by rw [hl']; exact hx.1, ?_⟩ ?_
      · intro w h0 h1
        rw [key w h0 (by omega), hx.2 w h0 h1, lap_take hlt]
        omega
      · intro w h0 h1
        have h1' : w < n := by omega
        rw [key w h0 h1', e1]
        have := hb w h0 (by omega)
        unfold lapE one
        (repeat' split) <;> omega
    refine Ep.up ?_
    simp only [impl_fire.l0]
    refine Ep.pos (by omega) (Ep.pos (by omega) (Ep.pos (by omega) ?_))
    rw [rdE_get hlt, wrap_succ (by omega)]
    refine Ep.ite (fun c => ?_) (fun c => Ep.ite (fun c2 => ?_) (fun c2 => ?_))
    · subst c
      refine Ep.pos (by omega) (Ep.pos (by omega) (Ep.bind0 rfl (Ep.pos (by omega) (Ep.pos (by omega) ?_))))
      rw [rd_set (x := x) (by omega) (by omega) _ (w := es[i].f1) (by omega), if_neg (by omega), wrap_id (x := rd x es[i].f0 - t) (by omega) (by omega), wrap_id (x := rd x es[i].f1 + t) (by omega) (by omega)]
      refine fin _ (by simp) ?_
      intro w h0 h1
      rw [rd_set (by omega) (by rw [List.length_set]; omega) _ h0, rd_set (by omega) (by omega) _ h0]
      unfold lapE one
      by_cases c1 : w = es[i].f1
      · subst c1; (repeat' split) <;> omega
      · by_cases c0 : w = es[i].f0
        · subst c0; (repeat' split) <;> omega
        · (repeat' split) <;> omega
    · subst c2
      refine Ep.pos (by omega) (Ep.pos (by omega) (Ep.bind0 rfl (Ep.pos (by omega) (Ep.pos (by omega) ?_))))
      rw [rd_set (x := x) (by omega) (by omega) _ (w := es[i].f0) (by omega), if_neg (by omega), wrap_id (x := rd x es[i].f1 - t) (by omega) (by omega), wrap_id (x := rd x es[i].f0 + t) (by omega) (by omega)]
      refine fin _ (by simp) ?_
      intro w h0 h1
      rw [rd_set (by omega) (by rw [List.length_set]; omega) _ h0, rd_set (by omega) (by omega) _ h0]
      unfold lapE one
      by_cases c1 : w = es[i].f1
      · subst c1; (repeat' split) <;> omega
      · by_cases c0 : w = es[i].f0
        · subst c0; (repeat' split) <;> omega
        · (repeat' split) <;> omega
    · refine fin x rfl ?_
      intro w h0 h1
      unfold lapE one
      (repeat' split) <;> omega
theorem implFire (n : Nat) (es : List E) (hes : ∀ e ∈ es, EOk n e) (hel : es.length ≤ 12) (d : List Int) (v t : Int) (hd : d.length = n) (hv : 0 ≤ v ∧ v < n) {B K : Int} (hK : 0 ≤ K ∧ 0 ≤ B) (hbd : Bd d B) (ht : -K ≤ t ∧ t ≤ K) (hB : B + 12 * K ≤ 4611686018427387904) :
    Ep (fun r => impl_fire.f r (n : Int) es d v t) (fun r => Less es d (one v t) r ∧ Bd r (B + 12 * K)) := by
  simp only [impl_fire.f]
  refine implFire_l0 n es hes hel d v t hd hv hK hbd ht hB es.length 0 _ (by omega) ⟨rfl, fun w _ _ => ?_⟩ ?_
  · simp [lap, sumE]
  · simpa using hbd
theorem copy_eq (l : List Int) (h : l.length ≤ 1048576) : impl_copyInts.f l = some l := by
  unfold impl_copyInts.f
  rw [if_pos (by simp; omega)]
  rfl
end Go.Proofs.Ytgobnfeahffnaaa.Cf
end

section
namespace Go.Proofs.Ytgobnfeahffnaaa.P
open Go.RowKit Go.Proofs.YtgobnfeahffnaaaW.PrintWords Go.Proofs.YtgobnfeahffnaaaW.PrintLast Go.Proofs.YtgobnfeahffnaaaW.PrintMore
attribute [local go_sem] max2_int min2_int max_two min_two max_three min_three max_four min_four
set_option linter.unusedVariables false
set_option linter.unusedSimpArgs false
def spec_l10Topple.f (k : Nat) (a0_0 : Int) (l0_1 : List (S83)) (l1 : List Int) (a2 : Int) (a3 : Int) : Option (List Int) := if 0 ≤ a0_0 then (if (a0_0 : Int).toNat ≤ 35184372088832 then ((some (List.replicate (a0_0 : Int).toNat 0 : List Int)).bind fun y102 => (if 0 ≤ a3 then (if a3 < (y102.length : Int) then ((spec_l04Fire.f k a0_0 l0_1 l1 (y102.set (a3 : Int).toNat 1)).bind fun t106 => (if 0 ≤ a2 then (if a2 < (t106.length : Int) then (some (t106.set (a2 : Int).toNat 0)) else (none)) else (none))) else (none)) else (none))) else (none)) else (none)
theorem spec_l10Topple.mono : ∀ a0 a1 a2 a3 a4 k, LeO (spec_l10Topple.f k a0 a1 a2 a3 a4) (spec_l10Topple.f (k + 1) a0 a1 a2 a3 a4) := by
 intro a0 a1 a2 a3 a4 k; unfold spec_l10Topple.f; repeat' first | (with_reducible apply spec_l04Fire.mono) | (with_reducible exact LeO.refl _) | (with_reducible exact LeO.none _) | (with_reducible refine LeO.ite ?_ ?_) | (with_reducible refine LeO.bind ?_ (fun _ => ?_)) | apply spec_l04Fire.mono | exact LeO.none _ | refine LeO.ite ?_ ?_ | refine LeO.bind ?_ (fun _ => ?_)
def impl_Topple.j0 : Nat → List Int → Int → Int → Bool → Int → List (S83) → Option (List Int × Bool)
 | 0, _, _, _, _, _, _ => none
 | k + 1, x1, x2, x3, x38, x102000, x102001 => if x38 = true then (some (([] : List Int), false)) else ((impl_copyInts.f x1).bind fun t106 => ((impl_fire.f k x102000 x102001 t106 x3 1).bind fun t109 => (if 0 ≤ x2 then (if x2 < (t106.length : Int) then (some ((t109.set (x2 : Int).toNat 0), true)) else (none)) else (none))))
def impl_Topple.f (k : Nat) (a0_0 : Int) (l0_1 : List (S83)) (l1 : List Int) (a2 : Int) (a3 : Int) : Option (List Int × Bool) := (impl_PileOk.f k a0_0 l0_1 l1 a2).bind fun t102 => (if t102 = true then (if a3 = a2 then (impl_Topple.j0 k l1 a2 a3 true a0_0 l0_1) else ((impl_within.f a3 0 (wrap64 (a0_0 - 1))).bind fun t103 => (if t103 = true then (if 0 ≤ a3 then (if a3 < (l1.length : Int) then ((impl_Valence.f k a0_0 l0_1 a3).bind fun t105 => (impl_Topple.j0 k l1 a2 a3 (decide ((rd l1 a3) < t105)) a0_0 l0_1)) else (none)) else (none)) else (impl_Topple.j0 k l1 a2 a3 true a0_0 l0_1)))) else (impl_Topple.j0 k l1 a2 a3 true a0_0 l0_1))
theorem impl_Topple.mono_l : ∀ k, (∀ y0 y1 y2 y3 y4 y5, LeO (impl_Topple.j0 k y0 y1 y2 y3 y4 y5) (impl_Topple.j0 (k + 1) y0 y1 y2 y3 y4 y5))
 | 0 => fun _ _ _ _ _ _ r h => by simp [impl_Topple.j0] at h
 | k + 1 => by
  have ih0 := impl_Topple.mono_l k
  ·intro y0 y1 y2 y3 y4 y5
   unfold impl_Topple.j0
   exact zm18
theorem impl_Topple.mono : ∀ a0 a1 a2 a3 a4 k, LeO (impl_Topple.f k a0 a1 a2 a3 a4) (impl_Topple.f (k + 1) a0 a1 a2 a3 a4) := by
 intro a0 a1 a2 a3 a4 k; have ih0 := impl_Topple.mono_l k; unfold impl_Topple.f; exact zm18
def spec_l10Settle.l0 : Nat → Int → List Int → List Int → Int → List (S83) → Option (List Int × List Int)
 | 0, _, _, _, _, _ => none
 | k + 1, x2, x8, x9, x102000, x102001 => (spec_l10Unstable.f k x102000 x102001 x8 x2).bind fun t111 => (if t111 < 0 then (some (x8, x9)) else ((spec_l10Topple.f k x102000 x102001 x8 x2 t111).bind fun t112 => (if 0 ≤ t111 then (if t111 < (x9.length : Int) then (spec_l10Settle.l0 k x2 t112 (x9.set (t111 : Int).toNat (wrap64 ((rd x9 t111) + 1))) x102000 x102001) else (none)) else (none))))
def spec_l10Settle.f (k : Nat) (a0_0 : Int) (l0_1 : List (S83)) (l1 : List Int) (a2 : Int) : Option (List Int × List Int) := (some (([] : List Int) : List Int)).bind fun y102 => (if y102.length + l1.length < 17592186044416 then (if 0 ≤ a0_0 then (if (a0_0 : Int).toNat ≤ 35184372088832 then (spec_l10Settle.l0 k a2 (y102 ++ l1) (List.replicate (a0_0 : Int).toNat 0) a0_0 l0_1) else (none)) else (none)) else (none))
theorem spec_l10Settle.mono_l : ∀ k, (∀ y0 y1 y2 y3 y4, LeO (spec_l10Settle.l0 k y0 y1 y2 y3 y4) (spec_l10Settle.l0 (k + 1) y0 y1 y2 y3 y4))
 | 0 => fun _ _ _ _ _ r h => by simp [spec_l10Settle.l0] at h
 | k + 1 => by
  have ih0 := spec_l10Settle.mono_l k
  ·intro y0 y1 y2 y3 y4
   unfold spec_l10Settle.l0
   exact zm19
theorem spec_l10Settle.mono : ∀ a0 a1 a2 a3 k, LeO (spec_l10Settle.f k a0 a1 a2 a3) (spec_l10Settle.f (k + 1) a0 a1 a2 a3) := by
 intro a0 a1 a2 a3 k; have ih0 := spec_l10Settle.mono_l k; unfold spec_l10Settle.f; exact zm19
end Go.Proofs.Ytgobnfeahffnaaa.P
end

section
namespace Go.Proofs.Ytgobnfeahffnaaa.Cf
set_option linter.unusedVariables false
set_option linter.unusedSimpArgs false
open Go.RowKit Go.Proofs.YtgobnfeahffnaaaW.PrintWords Go.Proofs.Ytgobnfeahffnaaa.P
theorem Less.congr {n : Nat} {es : List E} (hes : ∀ e ∈ es, EOk n e) {d x : List Int} {s t : Int → Int} (h : Less es d s x) (he : ∀ w : Int, 0 ≤ w → w < n → s w = t w) : Less es d t x :=
  ⟨h.1, fun w h0 h1 => by rw [h.2 w h0 h1, lap_congr hes he]⟩
/-- Where the graph is valid. -/
structure Gr (n : Nat) (es : List E) (q : Int) : Prop where
  n1 : 1 ≤ n
  n6 : n ≤ 6
  hes : ∀ e ∈ es, EOk n e
  hel : es.length ≤ 12
  hj : Joined n es
  hq : 0 ≤ q ∧ q < n
theorem Gr.of {n : Nat} {es : List E} {q : Int} (h : GOk (n : Int) es) (hq : 0 ≤ q ∧ q < n) : Gr n es q := by
  obtain ⟨h1, _, h3⟩ := h
  unfold EsOk at h1
  exact ⟨by omega, by omega, h1.2.2.2, h1.2.2.1, h3, hq⟩
/-- A configuration before it topples. -/
structure Pre (n : Nat) (q : Int) (p : List Int) : Prop where
  len : p.length = n
  bd : ∀ v : Int, 0 ≤ v → v < n → v ≠ q → 0 ≤ rd p v ∧ rd p v ≤ 1000
  at_q : rd p q = 0
theorem Legal.bds {n : Nat} {es : List E} {q : Int} (g : Gr n es q) {p : List Int} (hp : Pre n q p) {s : Int → Int} (h : Legal n es q (rd p) s) :
    (∀ v : Int, 0 ≤ v → v < n → 0 ≤ s v ∧ s v ≤ 36000) ∧ sumN n (fun i => s (i : Int)) ≤ 216000 ∧ ∀ w : Int, 0 ≤ w → w < n → -500000 ≤ rd p w - lap es s w ∧ rd p w - lap es s w ≤ 500000 := by
  have h1 := h.small g.n6 g.hes g.hj g.hq (c := 1000) (by omega) (fun v h0 h1 h2 => (hp.bd v h0 h1 h2).2)
  refine ⟨fun v h0 h2 => by have := h1.1 v h0 h2; omega, by omega, fun w h0 h2 => ?_⟩
  have h3 := lap_bd g.hes g.hel (s := s) (L := 0) (S := 36000) (by omega) (fun v h0 h2 => by have := h1.1 v h0 h2; omega) w
  by_cases e : w = q
  · subst e
    have := hp.at_q
    omega
  · have := hp.bd w h0 h2 e
    omega
theorem settle_ex {n : Nat} {es : List E} {q : Int} (g : Gr n es q) {p : List Int} (hp : Pre n q p) : ∀ (k : Nat) (s : Int → Int), 216000 < sumN n (fun i => s (i : Int)) + k → Legal n es q (rd p) s → ∃ r, Settled n es q p r := by
  intro k
  induction k with
  | zero =>
    intro s hk hs
    have := (hs.bds g hp).2.1
    omega
  | succ k ih =>
    intro s hk hs
    by_cases st : Stable n es q (fun v => rd p v - lap es s v)
    · exact ⟨(repL n _, repL n s), s, hs, st, repL_rep n _, repL_rep n s⟩
    · unfold Stable at st
      simp only [Classical.not_forall] at st
      obtain ⟨v, v0, v1, v2, hv⟩ := st
      refine ih _ ?_ (hs.step v0 v1 v2 (by omega))
      rw [sumN_add n (fun i => s (i : Int)) (fun i => one v 1 (i : Int)), sumN_one' v0 v1]
      omega
theorem settleS_ok {n : Nat} {es : List E} {q : Int} (g : Gr n es q) {p : List Int} (hp : Pre n q p) : Settled n es q p (settleS n es q p) := by
  obtain ⟨r, hr⟩ := settle_ex g hp 216001 (fun _ => 0) (by simp only [sumN_zero]; omega) .zero
  rw [← hr.eq]
  exact hr
theorem implStab_l0 {n : Nat} {es : List E} {q : Int} (g : Gr n es q) {p : List Int} (hp : Pre n q p) : ∀ (k : Nat) (s : Int → Int) (x c : List Int), 216000 < sumN n (fun i => s (i : Int)) + k → Legal n es q (rd p) s → Rep n x (fun w => rd p w - lap es s w) → Rep n c s →
    Ep (fun f => impl_stabilize.l0 f q x c (unst n es q x x.length 0) (n : Int) es) (Settled n es q p) := by
  have hn := g.n6
  have hel := g.hel
  have hq := g.hq
  intro k
  induction k with
  | zero =>
    intro s x c hk hs _ _
    have := hs.bds g hp
    omega
  | succ k ih =>
    intro s x c hk hs hx hc
    have hb := hs.bds g hp
    have hxl := hx.1
    have hcl := hc.1
    refine Ep.up ?_
    simp only [impl_stabilize.l0]
    refine Ep.ite (fun h => ?_) (fun h => ?_)
    · have hu := unst_pos (es := es) (q := q) hxl (by omega)
      generalize unst n es q x x.length 0 = v at hu ⊢
      obtain ⟨h0, h1, h2, h3⟩ := hu
      have hcv := hb.1 v h0 h1
      have hxv := hb.2.2 v h0 h1
      have hvp := val_pos g.hj hq ⟨h0, h1⟩ h2
      have hx0 : rd x v = rd p v - lap es s v := hx.2 v h0 h1
      have hdv := Int.ediv_mul_le (rd x v) (b := val es v) (by omega)
      have hd0 : 1 ≤ rd x v / val es v := (Int.le_ediv_iff_mul_le hvp).2 (by omega)
      have hdm : rd x v / val es v ≤ rd x v := Int.ediv_le_self _ (by omega)
      have htd : Int.tdiv (rd x v) (val es v) = rd x v / val es v := Int.tdiv_eq_ediv_of_nonneg (by omega)
      have hbx : Bd x 1000000 := hx.bd fun w w0 w1 => by
        have := hb.2.2 w w0 w1
        omega
      refine Ep.pos (by omega) (Ep.pos (by omega) ?_)
      refine Ep.bind (implValence n es v (by omega)) ?_
      rintro _ rfl
      rw [valG_in ⟨h0, h1⟩]
      refine Ep.neg (by omega) ?_
      rw [htd, wrap_id (x := rd x v / val es v) (by omega) (by omega)]
      generalize rd x v / val es v = m at hdv hd0 hdm ⊢
      obtain ⟨m, rfl⟩ := Int.eq_ofNat_of_zero_le (a := m) (by omega)
      refine Ep.bind (implFire n es g.hes g.hel x v m hxl ⟨h0, h1⟩ (B := 1000000) (K := 1000000) ⟨by omega, by omega⟩ hbx (by omega) (by omega)) ?_
      rintro r ⟨hr, _⟩
      have hr' := hr.rep hxl
      have hrl := hr'.1
      have hs' := hs.many g.hes h0 h1 h2 m (by rw [← hx0]; exact hdv)
      have hsb := (hs'.bds g hp).1 v h0 h1
      simp only [one, if_true] at hsb
      refine Ep.pos (by omega) ?_
      rw [hc.2 v h0 h1, wrap_id (x := s v + (m : Int)) (by omega) (by omega)]
      refine Ep.bind (implUnst n es r q (by omega) (by omega)) ?_
      rintro _ rfl
      refine ih (fun w => s w + one v m w) r _ ?_ hs' (hr'.congr fun w w0 w1 => ?_) ((hc.set h0 h1 _).congr fun w _ _ => ?_)
      · rw [sum_grow h0 h1]
        omega
      · have h5 : rd x w = rd p w - lap es s w := hx.2 w w0 w1
        rw [h5, lap_add]
        omega
      · unfold one
        by_cases e : w = v
        · rw [if_pos e, if_pos e, e]
        · rw [if_neg e, if_neg e]
          omega
    · refine Ep.pos (by omega) (Ep.pos (by omega) (Ep.now ?_))
      refine ⟨s, hs, fun v h0 h1 h2 => ?_, hx.set hq.1 hq.2 0, hc⟩
      have h3 := unst_neg (es := es) (q := q) hxl (by omega) v h0 h1 h2
      rw [hx.2 v h0 h1] at h3
      exact h3
theorem implStab {n : Nat} {es : List E} {q : Int} (g : Gr n es q) {p : List Int} (hp : Pre n q p) : Ep (fun k => impl_stabilize.f k (n : Int) es p q) (· = settleS n es q p) := by
  have hn := g.n6
  have hl := hp.len
  have hel := g.hel
  simp only [impl_stabilize.f]
  refine Ep.bind0 (copy_eq p (by omega)) (Ep.pos (by omega) (Ep.pos (by omega) ?_))
  refine Ep.bind (implUnst n es p q (by omega) (by omega)) ?_
  rintro _ rfl
  refine (implStab_l0 g hp 216001 (fun _ => 0) p _ ?_ .zero ((Rep.self hl).congr fun w _ _ => ?_) (Rep.zero n)).mono fun r hr => hr.eq
  · simp only [sumN_zero]; omega
  · rw [lap_const (c := 0) (fun _ _ => ⟨rfl, rfl⟩)]
    omega
end Go.Proofs.Ytgobnfeahffnaaa.Cf
end

section
namespace Go.Proofs.Ytgobnfeahffnaaa.P
open Go.RowKit Go.Proofs.YtgobnfeahffnaaaW.PrintWords Go.Proofs.YtgobnfeahffnaaaW.PrintLast Go.Proofs.YtgobnfeahffnaaaW.PrintMore
attribute [local go_sem] max2_int min2_int max_two min_two max_three min_three max_four min_four
set_option linter.unusedVariables false
set_option linter.unusedSimpArgs false
mutual
def spec_l05Burn.l0 : Nat → List Int → List Int → List Bool → Int → List (S83) → Option (List Int)
 | 0, _, _, _, _, _ => none
 | k + 1, x1, x7, x8, x102000, x102001 => spec_l05Burn.l1 k x1 x7 x8 (-1) (wrap64 (x102000 - 1)) x102000 x102001
def spec_l05Burn.l1 : Nat → List Int → List Int → List Bool → Int → Int → Int → List (S83) → Option (List Int)
 | 0, _, _, _, _, _, _, _ => none
 | k + 1, x1, x7, x8, x9, x10, x102000, x102001 => if x10 ≥ 0 then (spec_l05Burn.l2 k x1 x7 x8 x9 x10 0 0 x102000 x102001) else (if x9 < 0 then (some x7) else (if 0 ≤ x9 then (if x9 < (x8.length : Int) then (if x7.length < 17592186044416 then (spec_l05Burn.l0 k x1 (x7 ++ [x9]) (x8.set (x9 : Int).toNat true) x102000 x102001) else (none)) else (none)) else (none)))
def spec_l05Burn.l2 : Nat → List Int → List Int → List Bool → Int → Int → Int → Int → Int → List (S83) → Option (List Int)
 | 0, _, _, _, _, _, _, _, _, _ => none
 | k + 1, x1, x7, x8, x9, x10, x11, x12, x102000, x102001 => if x12 < x102000 then (if 0 ≤ x12 then (if x12 < (x8.length : Int) then (if rdOf false x8 x12 = true then ((spec_Multiplicity.f k x102000 x102001 x10 x12).bind fun t114 => (spec_l05Burn.l2 k x1 x7 x8 x9 x10 (wrap64 (x11 + t114)) (wrap64 (x12 + 1)) x102000 x102001)) else (spec_l05Burn.l2 k x1 x7 x8 x9 x10 x11 (wrap64 (x12 + 1)) x102000 x102001)) else (none)) else (none)) else (if 0 ≤ x10 then (if x10 < (x8.length : Int) then (if rdOf false x8 x10 = true then (spec_l05Burn.l1 k x1 x7 x8 x9 (wrap64 (x10 - 1)) x102000 x102001) else (if x10 < (x1.length : Int) then (if (rd x1 x10) < x11 then (spec_l05Burn.l1 k x1 x7 x8 x10 (wrap64 (x10 - 1)) x102000 x102001) else (spec_l05Burn.l1 k x1 x7 x8 x9 (wrap64 (x10 - 1)) x102000 x102001)) else (none))) else (none)) else (none))
end
def spec_l05Burn.f (k : Nat) (a0_0 : Int) (l0_1 : List (S83)) (l1 : List Int) (a2 : Int) : Option (List Int) := if 0 ≤ a0_0 then (if (a0_0 : Int).toNat ≤ 281474976710656 then ((some (List.replicate (a0_0 : Int).toNat false : List Bool)).bind fun y105 => (if 0 ≤ a2 then (if a2 < (y105.length : Int) then (spec_l05Burn.l0 k l1 (([a2] : List Int)) (y105.set (a2 : Int).toNat true) a0_0 l0_1) else (none)) else (none))) else (none)) else (none)
theorem spec_l05Burn.mono_l : ∀ k, (∀ y0 y1 y2 y3 y4, LeO (spec_l05Burn.l0 k y0 y1 y2 y3 y4) (spec_l05Burn.l0 (k + 1) y0 y1 y2 y3 y4)) ∧ (∀ y0 y1 y2 y3 y4 y5 y6, LeO (spec_l05Burn.l1 k y0 y1 y2 y3 y4 y5 y6) (spec_l05Burn.l1 (k + 1) y0 y1 y2 y3 y4 y5 y6)) ∧ (∀ y0 y1 y2 y3 y4 y5 y6 y7 y8, LeO (spec_l05Burn.l2 k y0 y1 y2 y3 y4 y5 y6 y7 y8) (spec_l05Burn.l2 (k + 1) y0 y1 y2 y3 y4 y5 y6 y7 y8))
 | 0 => ⟨fun _ _ _ _ _ r h => by simp [spec_l05Burn.l0] at h, fun _ _ _ _ _ _ _ r h => by simp [spec_l05Burn.l1] at h, fun _ _ _ _ _ _ _ _ _ r h => by simp [spec_l05Burn.l2] at h⟩
 | k + 1 => by
  obtain ⟨ih0, ih1, ih2⟩ := spec_l05Burn.mono_l k
  refine ⟨?_, ?_, ?_⟩
  ·intro y0 y1 y2 y3 y4
   unfold spec_l05Burn.l0
   exact zm8
  ·intro y0 y1 y2 y3 y4 y5 y6
   unfold spec_l05Burn.l1
   exact zm8
  ·intro y0 y1 y2 y3 y4 y5 y6 y7 y8
   unfold spec_l05Burn.l2
   exact zm8
theorem spec_l05Burn.mono : ∀ a0 a1 a2 a3 k, LeO (spec_l05Burn.f k a0 a1 a2 a3) (spec_l05Burn.f (k + 1) a0 a1 a2 a3) := by
 intro a0 a1 a2 a3 k; obtain ⟨ih0, ih1, ih2⟩ := spec_l05Burn.mono_l k; unfold spec_l05Burn.f; exact zm8
end Go.Proofs.Ytgobnfeahffnaaa.P
end

section
namespace Go.Proofs.Ytgobnfeahffnaaa.Cf
set_option linter.unusedVariables false
set_option linter.unusedSimpArgs false
open Go.RowKit Go.Proofs.YtgobnfeahffnaaaW.PrintWords Go.Proofs.YtgobnfeahffnaaaW.PrintMore Go.Proofs.Ytgobnfeahffnaaa.P
theorem multE_alt {n : Int} {e : E} (h : EOk n e) {a b : Int} (hab : a ≠ b) : multE a b e = if e.f0 = mn a b ∧ e.f1 = mx a b then 1 else 0 := by
  unfold EOk at h
  unfold multE mn mx
  by_cases c : b < a
  · rw [if_pos c, if_neg (show ¬ a < b by omega)]
    by_cases x : e.f0 = b ∧ e.f1 = a
    · rw [if_pos (.inr x), if_pos x]
    · rw [if_neg (by omega), if_neg x]
  · rw [if_neg c, if_pos (show a < b by omega)]
    by_cases x : e.f0 = a ∧ e.f1 = b
    · rw [if_pos (.inl x), if_pos x]
    · rw [if_neg (by omega), if_neg x]
theorem mult_self {n : Int} {es : List E} (hes : ∀ e ∈ es, EOk n e) (a : Int) : mult es a a = 0 := by
  apply sumE_zero
  intro e he
  have h := hes e he
  unfold EOk at h
  unfold multE
  rw [if_neg (by omega)]
theorem mult_drop {es : List E} {i : Nat} (h : i < es.length) (a b : Int) : mult (es.drop i) a b = multE a b es[i] + mult (es.drop (i + 1)) a b := by
  rw [List.drop_eq_getElem_cons h]
  exact sumE_cons _ _ _
theorem specMult_l0 (n : Int) (es : List E) (hes : ∀ e ∈ es, EOk n e) (hel : es.length ≤ 12) (a b : Int) (hab : a ≠ b) : ∀ (d i : Nat) (c : Int), i + d = es.length → 0 ≤ c → c ≤ i → Ep (fun k => spec_Multiplicity.l0 k a b c es (es.length : Int) (i : Int)) (· = c + mult (es.drop i) a b) := by
  intro d
  induction d with
  | zero =>
    intro i c hi h0 h1
    refine Ep.up ?_
    simp only [spec_Multiplicity.l0]
    refine Ep.neg (by omega) (Ep.now ?_)
    rw [List.drop_of_length_le (by omega)]
    simp [mult, sumE]
  | succ d ih =>
    intro i c hi h0 h1
    have hlt : i < es.length := by omega
    have hk := hes _ (List.getElem_mem hlt)
    refine Ep.up ?_
    simp only [spec_Multiplicity.l0]
    refine Ep.pos (by omega) (Ep.pos (by omega) (Ep.pos (by omega) ?_))
    rw [rdE_get hlt, wrap_succ (by omega), wrap_id (x := c + 1) (by omega) (by omega), mult_drop hlt, multE_alt hk hab]
    refine Ep.ite (fun h => Ep.ite (fun h2 => ?_) (fun h2 => ?_)) (fun h => ?_)
    · rw [if_pos ⟨h, h2⟩]
      refine (ih (i + 1) (c + 1) (by omega) (by omega) (by omega)).mono ?_
      rintro _ rfl
      omega
    · rw [if_neg (fun x => h2 x.2)]
      refine (ih (i + 1) c (by omega) (by omega) (by omega)).mono ?_
      rintro _ rfl
      omega
    · rw [if_neg (fun x => h x.1)]
      refine (ih (i + 1) c (by omega) (by omega) (by omega)).mono ?_
      rintro _ rfl
      omega
theorem l02Vert_eq (n : Int) (es : List E) (v : Int) : spec_l02Vert.f n es v = some (decide (0 ≤ v ∧ v < n)) := by
  unfold spec_l02Vert.f
  by_cases h : v ≥ 0
  · rw [if_pos h]
    have : (0 ≤ v ∧ v < n) ↔ v < n := ⟨fun x => x.2, fun x => ⟨h, x⟩⟩
    simp only [this]
  · rw [if_neg h]
    have : ¬ (0 ≤ v ∧ v < n) := fun x => h x.1
    simp only [this, decide_false]
theorem specMult (n : Int) (es : List E) (hes : ∀ e ∈ es, EOk n e) (hel : es.length ≤ 12) (a b : Int) (ha : 0 ≤ a ∧ a < n) (hb : 0 ≤ b ∧ b < n) : Ep (fun k => spec_Multiplicity.f k n es a b) (· = mult es a b) := by
  simp only [spec_Multiplicity.f]
  refine Ep.bind0 (l02Vert_eq _ _ _) (Ep.pos (by simpa using ha) (Ep.bind0 (l02Vert_eq _ _ _) (Ep.pos (by simpa using hb) ?_)))
  refine Ep.up ?_
  simp only [spec_Multiplicity.j0]
  refine Ep.ite (fun h => Ep.now ?_) (fun h => ?_)
  · have : a = b := by simpa using h
    rw [this, mult_self hes]
  · have hab : a ≠ b := by simpa using h
    refine (specMult_l0 n es hes hel a b hab es.length 0 0 (by omega) (by omega) (by omega)).mono ?_
    rintro _ rfl
    simp
theorem implMult_l0 (n : Int) (es : List E) (hes : ∀ e ∈ es, EOk n e) (hel : es.length ≤ 12) (a b : Int) (hab : a ≠ b) : ∀ (d i : Nat) (c : Int), i + d = es.length → 0 ≤ c → c ≤ i → Ep (fun k => impl_Multiplicity.l0 k a b c es (es.length : Int) (i : Int)) (· = c + mult (es.drop i) a b) := by
  intro d
  induction d with
  | zero =>
    intro i c hi h0 h1
    refine Ep.up ?_
    simp only [impl_Multiplicity.l0]
    refine Ep.neg (by omega) (Ep.now ?_)
    rw [List.drop_of_length_le (by omega)]
    simp [mult, sumE]
  | succ d ih =>
    intro i c hi h0 h1
    have hlt : i < es.length := by omega
    have hk := hes _ (List.getElem_mem hlt)
    refine Ep.up ?_
    simp only [impl_Multiplicity.l0]
    refine Ep.pos (by omega) (Ep.pos (by omega) (Ep.pos (by omega) ?_))
    rw [rdE_get hlt, wrap_succ (by omega), wrap_id (x := c + 1) (by omega) (by omega), mult_drop hlt, multE_alt hk hab]
    refine Ep.ite (fun h => Ep.ite (fun h2 => ?_) (fun h2 => ?_)) (fun h => ?_)
    · rw [if_pos ⟨h, h2⟩]
      refine (ih (i + 1) (c + 1) (by omega) (by omega) (by omega)).mono ?_
      rintro _ rfl
      omega
    · rw [if_neg (fun x => h2 x.2)]
      refine (ih (i + 1) c (by omega) (by omega) (by omega)).mono ?_
      rintro _ rfl
      omega
    · rw [if_neg (fun x => h x.1)]
      refine (ih (i + 1) c (by omega) (by omega) (by omega)).mono ?_
      rintro _ rfl
      omega
theorem implMult (n : Int) (es : List E) (hes : ∀ e ∈ es, EOk n e) (hel : es.length ≤ 12) (a b : Int) (ha : 0 ≤ a ∧ a < n) (hb : 0 ≤ b ∧ b < n) : Ep (fun k => impl_Multiplicity.f k n es a b) (· = mult es a b) := by
  simp only [impl_Multiplicity.f]
  refine Ep.neg (by unfold mn; split <;> omega) (Ep.neg (by unfold mx; split <;> omega) ?_)
  refine Ep.up ?_
  simp only [impl_Multiplicity.j0]
  refine Ep.ite (fun h => Ep.now ?_) (fun h => ?_)
  · have : a = b := by simpa using h
    rw [this, mult_self hes]
  · have hab : a ≠ b := by simpa using h
    refine (implMult_l0 n es hes hel a b hab es.length 0 0 (by omega) (by omega) (by omega)).mono ?_
    rintro _ rfl
    simp
/-- The first place, counted from i; or -1. -/
def idxF (x : Int) : List Int → Nat → Int
  | [], _ => -1
  | a :: r, i => if x = a then i else idxF x r (i + 1)
theorem idxF_drop {l : List Int} {i : Nat} (h : i < l.length) (x : Int) (j : Nat) : idxF x (l.drop i) j = if x = l[i] then (j : Int) else idxF x (l.drop (i + 1)) (j + 1) := by
  rw [List.drop_eq_getElem_cons h]
  rfl
theorem idxF_mem (x : Int) : ∀ (l : List Int) (i : Nat), 0 ≤ idxF x l i ↔ x ∈ l
  | [], i => by simp [idxF]
  | a :: r, i => by
    unfold idxF
    by_cases h : x = a
    · rw [if_pos h, h]; simp
    · rw [if_neg h, idxF_mem x r (i + 1)]; simp [h]
theorem index_l0 (l : List Int) (x : Int) (hl : l.length ≤ 1048576) : ∀ (d i : Nat), i + d = l.length → Ep (fun k => slices_Index_int_int.l0 k l x (l.length : Int) (i : Int)) (· = idxF x (l.drop i) i) := by
  intro d
  induction d with
  | zero =>
    intro i hi
    refine Ep.up ?_
    simp only [slices_Index_int_int.l0]
    refine Ep.neg (by omega) (Ep.now ?_)
    rw [List.drop_of_length_le (by omega)]
    rfl
  | succ d ih =>
    intro i hi
    have hlt : i < l.length := by omega
    refine Ep.up ?_
    simp only [slices_Index_int_int.l0]
    refine Ep.pos (by omega) (Ep.pos (by omega) (Ep.pos (by omega) ?_))
    rw [rd_get hlt, wrap_succ (by omega), idxF_drop hlt]
    refine Ep.ite (fun h => Ep.now ?_) (fun h => ?_)
    · rw [if_pos h]
    · rw [if_neg h]
      exact ih (i + 1) (by omega)
theorem index_ok (l : List Int) (x : Int) (hl : l.length ≤ 1048576) : Ep (fun k => slices_Index_int_int.f k l x) (· = idxF x l 0) := by
  have := index_l0 l x hl l.length 0 (by omega)
  simp only [slices_Index_int_int.f]
  exact this
theorem contains_ok (l : List Int) (x : Int) (hl : l.length ≤ 1048576) : Ep (fun k => slices_Contains_int_int.f k l x) (· = decide (x ∈ l)) := by
  simp only [slices_Contains_int_int.f]
  refine Ep.bind (index_ok l x hl) ?_
  rintro _ rfl
  refine Ep.now ?_
  have := idxF_mem x l 0
  simp only [ge_iff_le, this]
theorem burnSum_bd {es : List E} (hel : es.length ≤ 12) (v : Int) : ∀ (b : List Int), 0 ≤ burnSum es b v ∧ burnSum es b v ≤ 12 * b.length
  | [] => by simp [burnSum]
  | a :: r => by
    have ih := burnSum_bd hel v r
    have h0 := mult_nonneg es v a
    have h1 := mult_le es v a
    unfold burnSum at ih ⊢
    rw [List.map_cons, List.sum_cons, List.length_cons]
    omega
/-- The list of truth values tells what burns. -/
def BRep (n : Nat) (x : List Bool) (b : List Int) : Prop := x.length = n ∧ ∀ w : Nat, w < n → rdOf false x (w : Int) = decide ((w : Int) ∈ b)
theorem BRep.push {n : Nat} {x : List Bool} {b : List Int} (h : BRep n x b) {v : Nat} (hv : v < n) : BRep n (x.set v true) (b ++ [(v : Int)]) := by
  refine ⟨by rw [List.length_set]; exact h.1, fun w hw => ?_⟩
  have := h.2 w hw
  simp only [rdOf, Int.toNat_natCast, List.getD_eq_getElem?_getD] at this ⊢
  by_cases e : v = w
  · subst e
    rw [List.getElem?_set_self (by have := h.1; omega)]
    simp
  · rw [List.getElem?_set_ne e, this]
    have : ¬ (w : Int) = v := by omega
    simp [this]
theorem BRep.start {n : Nat} {q : Int} (h0 : 0 ≤ q) (h1 : q < n) : BRep n ((List.replicate n false).set q.toNat true) [q] := by
  have h : BRep n (List.replicate n false) [] := ⟨by simp, fun w hw => by simp [rdOf, hw]⟩
  have := h.push (v := q.toNat) (by omega)
  have e : ((q.toNat : Nat) : Int) = q := by omega
  rw [e] at this
  exact this
theorem specBurn_l2 {n : Nat} {es : List E} {q : Int} (g : Gr n es q) (d : List Int) (hd : d.length = n) (b : List Int) (hok : b.Nodup ∧ ∀ v ∈ b, 0 ≤ v ∧ v < n) (x : List Bool) (hx : BRep n x b) (v : Nat) (hv : v < n) (next : Int) {Q : List Int → Prop}
    (hk : Ep (fun k => spec_l05Burn.l1 k d b x (if (v : Int) ∉ b ∧ rd d v < burnSum es b v then (v : Int) else next) ((v : Int) - 1) (n : Int) es) Q) :
    ∀ (dd i : Nat), i + dd = n → Ep (fun k => spec_l05Burn.l2 k d b x next (v : Int) (sumN i (fun w => if (w : Int) ∈ b then mult es v w else 0)) (i : Int) (n : Int) es) Q := by
  have hn := g.n6
  have hel := g.hel
  have hxl := hx.1
  have hbd : ∀ i, i ≤ n → 0 ≤ sumN i (fun w => if (w : Int) ∈ b then mult es v w else 0) ∧ sumN i (fun w => if (w : Int) ∈ b then mult es v w else 0) ≤ i * 12 := by
    intro i hi
    have hm : ∀ w : Nat, 0 ≤ (if (w : Int) ∈ b then mult es v w else 0) ∧ (if (w : Int) ∈ b then mult es v w else 0) ≤ 12 := by
      intro w
      have h0 := mult_nonneg es v w
      have h1 := mult_le es v w
      split <;> omega
    exact ⟨sumN_nonneg fun w _ => (hm w).1, sumN_le_const fun w _ => (hm w).2⟩
  intro dd
  induction dd with
  | zero =>
    intro i hi
    obtain rfl : i = n := by omega
    rw [sum_pick (mult es v) i b hok.1 hok.2]
    show Ep (fun k => spec_l05Burn.l2 k d b x next (v : Int) (burnSum es b v) (i : Int) (i : Int) es) Q
    refine Ep.up ?_
    simp only [spec_l05Burn.l2]
    rw [wrap_id (x := (v : Int) - 1) (by omega) (by omega)]
    refine Ep.neg (by omega) (Ep.pos (by omega) (Ep.pos (by omega) ?_))
    rw [hx.2 v hv]
    refine Ep.ite (fun h => ?_) (fun h => ?_)
    · have h' : (v : Int) ∈ b := by simpa using h
      rw [if_neg (fun y => y.1 h')] at hk
      exact hk
    · have h' : (v : Int) ∉ b := by simpa using h
      refine Ep.pos (by omega) (Ep.ite (fun h2 => ?_) (fun h2 => ?_))
      · rw [if_pos ⟨h', h2⟩] at hk
        exact hk
      · rw [if_neg (fun y => h2 y.2)] at hk
        exact hk
  | succ dd ih =>
    intro i hi
    have hb := hbd i (by omega)
    have hb1 := hbd (i + 1) (by omega)
    have ih' := ih (i + 1) (by omega)
    simp only [sumN] at ih' hb1
    refine Ep.up ?_
    simp only [spec_l05Burn.l2]
    refine Ep.pos (by omega) (Ep.pos (by omega) (Ep.pos (by omega) ?_))
    rw [hx.2 i (by omega), wrap_succ (by omega)]
    refine Ep.ite (fun h => ?_) (fun h => ?_)
    · have h' : (i : Int) ∈ b := by simpa using h
      rw [if_pos h'] at ih' hb1
      refine Ep.bind (specMult n es g.hes hel v i (by omega) (by omega)) ?_
      rintro _ rfl
      rw [wrap_id (by omega) (by omega)]
      exact ih'
    · have h' : (i : Int) ∉ b := by simpa using h
      rw [if_neg h', Int.add_zero] at ih'
      exact ih'
theorem specBurn_l1 {n : Nat} {es : List E} {q : Int} (g : Gr n es q) (d : List Int) (hd : d.length = n) (b : List Int) (hok : b.Nodup ∧ ∀ v ∈ b, 0 ≤ v ∧ v < n) (x : List Bool) (hx : BRep n x b) {Q : List Int → Prop}
    (hk : Ep (fun k => spec_l05Burn.l1 k d b x (nextB es (rd d) b n 0) (-1) (n : Int) es) Q) :
    ∀ i : Nat, i ≤ n → Ep (fun k => spec_l05Burn.l1 k d b x (nextB es (rd d) b (n - i) i) ((i : Int) - 1) (n : Int) es) Q := by
  have hn := g.n6
  intro i
  induction i with
  | zero => intro _; exact hk
  | succ i ih =>
    intro hi
    have ih' := ih (by omega)
    obtain ⟨m, hm⟩ : ∃ m, n - i = m + 1 := ⟨n - i - 1, by omega⟩
    have hm2 : n - (i + 1) = m := by omega
    rw [hm] at ih'
    unfold nextB at ih'
    rw [hm2, show (((i + 1 : Nat) : Int) - 1) = (i : Int) by omega]
    refine Ep.up ?_
    simp only [spec_l05Burn.l1]
    refine Ep.pos (by omega) ?_
    exact specBurn_l2 g d hd b hok x hx i (by omega) _ ih' n 0 (by omega)
theorem specBurn_l0 {n : Nat} {es : List E} {q : Int} (g : Gr n es q) (d : List Int) (hd : d.length = n) : ∀ (k : Nat) (b : List Int) (x : List Bool), n + 1 ≤ b.length + k → Burn n es (rd d) q b → BRep n x b → Ep (fun f => spec_l05Burn.l0 f d b x (n : Int) es) (· = burnW n es (rd d) k b) := by
  have hn := g.n6
  intro k
  induction k with
  | zero =>
    intro b x hl hb _
    have := hb.len g.hq
    omega
  | succ k ih =>
    intro b x hl hb hx
    have hok := hb.ok g.hq
    have hlen := hb.len g.hq
    have hxl := hx.1
    refine Ep.up ?_
    simp only [spec_l05Burn.l0]
    rw [wrap_id (x := (n : Int) - 1) (by omega) (by omega)]
    have h1 := specBurn_l1 (Q := (· = burnW n es (rd d) (k + 1) b)) g d hd b ⟨hok.1, hok.2.1⟩ x hx ?_ n (Nat.le_refl _)
    · rw [Nat.sub_self] at h1
      exact h1
    · unfold burnW
      have hnx := nextB_ok es (rd d) b n 0
      generalize nextB es (rd d) b n 0 = v at hnx ⊢
      refine Ep.up ?_
      simp only [spec_l05Burn.l1]
      refine Ep.neg (by omega) (Ep.ite (fun h => Ep.now ?_) (fun h => ?_))
      · rw [if_pos h]
      · rw [if_neg h]
        rcases hnx with ⟨h2, _⟩ | ⟨h2, h3, h4, h5⟩
        · omega
        · obtain ⟨v, rfl⟩ := Int.eq_ofNat_of_zero_le (a := v) (by omega)
          refine Ep.pos (by omega) (Ep.pos (by omega) (Ep.pos (by omega) ?_))
          exact ih _ _ (by simp; omega) (hb.step (by omega) (by omega) h4 h5) (hx.push (by omega))
theorem specBurn {n : Nat} {es : List E} {q : Int} (g : Gr n es q) (d : List Int) (hd : d.length = n) : Ep (fun k => spec_l05Burn.f k (n : Int) es d q) (· = burnF n es (rd d) q) := by
  have hn := g.n6
  have hq := g.hq
  simp only [spec_l05Burn.f]
  refine Ep.pos (by omega) (Ep.pos (by omega) (Ep.bind0 rfl (Ep.pos (by omega) (Ep.pos (by simp; omega) ?_))))
  exact specBurn_l0 g d hd n [q] _ (by simp; omega) .start (BRep.start hq.1 hq.2)
theorem implBurn_l2 {n : Nat} {es : List E} {q : Int} (g : Gr n es q) (d : List Int) (hd : d.length = n) (b : List Int) (hok : b.Nodup ∧ ∀ v ∈ b, 0 ≤ v ∧ v < n) (hbl : b.length ≤ n) (v : Nat) (hv : v < n) {Q : List Int → Prop}
    (hk : Ep (fun k => impl_burn.l1 k d b (if (v : Int) ∉ b ∧ rd d v < burnSum es b v then (v : Int) else -1) ((v + 1 : Nat) : Int) (n : Int) es) Q) :
    ∀ (dd i : Nat), i + dd = b.length → Ep (fun k => impl_burn.l2 k d b (-1) (v : Int) (burnSum es (b.take i) v) b (b.length : Int) (i : Int) (n : Int) es) Q := by
  have hn := g.n6
  have hel := g.hel
  intro dd
  induction dd with
  | zero =>
    intro i hi
    rw [List.take_of_length_le (by omega)]
    refine Ep.up ?_
    simp only [impl_burn.l2]
    have hw := wrap_succ (i := v) (by omega)
    rw [hw]
    refine Ep.neg (by omega) ?_
    refine Ep.bind (contains_ok b v (by omega)) ?_
    rintro _ rfl
    refine Ep.ite (fun h => ?_) (fun h => ?_)
    · have h' : (v : Int) ∈ b := by simpa using h
      rw [if_neg (fun y => y.1 h')] at hk
      exact hk
    · have h' : (v : Int) ∉ b := by simpa using h
      refine Ep.pos (by omega) (Ep.pos (by omega) (Ep.ite (fun h2 => ?_) (fun h2 => ?_)))
      · rw [if_pos ⟨h', h2⟩] at hk
        exact hk
      · rw [if_neg (fun y => h2 y.2)] at hk
        exact hk
  | succ dd ih =>
    intro i hi
    have hlt : i < b.length := by omega
    have hbi := hok.2 _ (List.getElem_mem hlt)
    have hb := burnSum_bd hel v (b.take i)
    have hml := mult_le es v b[i]
    have hm0 := mult_nonneg es v b[i]
    rw [List.length_take] at hb
    have e : burnSum es (b.take (i + 1)) v = burnSum es (b.take i) v + mult es v b[i] := by
      unfold burnSum
      rw [List.take_succ_eq_append_getElem hlt, List.map_append, List.sum_append]
      simp
    have ih' := ih (i + 1) (by omega)
    rw [e] at ih'
    refine Ep.up ?_
    simp only [impl_burn.l2]
    refine Ep.pos (by omega) (Ep.pos (by omega) (Ep.pos (by omega) ?_))
    rw [rd_get hlt, wrap_succ (by omega)]
    refine Ep.bind (implMult n es g.hes hel v b[i] (by omega) hbi) ?_
    rintro _ rfl
    rw [wrap_id (by omega) (by omega)]
    exact ih'
theorem implBurn_l1 {n : Nat} {es : List E} {q : Int} (g : Gr n es q) (d : List Int) (hd : d.length = n) (b : List Int) (hok : b.Nodup ∧ ∀ v ∈ b, 0 ≤ v ∧ v < n) (hbl : b.length ≤ n) {Q : List Int → Prop}
    (hk : Ep (fun k => if nextB es (rd d) b n 0 < 0 then some b else (if b.length < 17592186044416 then impl_burn.l0 k d (b ++ [nextB es (rd d) b n 0]) (n : Int) es else none)) Q) :
    ∀ (dd i : Nat), i + dd = n → nextB es (rd d) b n 0 = nextB es (rd d) b dd i → Ep (fun k => impl_burn.l1 k d b (-1) (i : Int) (n : Int) es) Q := by
  have hn := g.n6
  intro dd
  induction dd with
  | zero =>
    intro i hi he
    rw [he] at hk
    simp only [nextB] at hk
    refine Ep.up ?_
    simp only [impl_burn.l1]
    refine Ep.neg (by omega) (Ep.up ?_)
    simp only [impl_burn.j2]
    exact Ep.neg (by simp) hk
  | succ dd ih =>
    intro i hi he
    refine Ep.up ?_
    simp only [impl_burn.l1]
    refine Ep.pos (by omega) (Ep.up ?_)
    simp only [impl_burn.j2]
    refine Ep.pos (by simp) ?_
    have h2 := implBurn_l2 (Q := Q) g d hd b hok hbl i (by omega) ?_ b.length 0 (by omega)
    · simpa [burnSum] using h2
    · replace he : nextB es (rd d) b n 0 = (if (i : Int) ∉ b ∧ rd d i < burnSum es b i then (i : Int) else nextB es (rd d) b dd (i + 1)) := he
      by_cases h : (i : Int) ∉ b ∧ rd d i < burnSum es b i
      · rw [if_pos h] at he ⊢
        rw [he] at hk
        refine Ep.up ?_
        simp only [impl_burn.l1]
        refine Ep.ite (fun _ => ?_) (fun _ => ?_)
        · refine Ep.up ?_
          simp only [impl_burn.j2]
          exact Ep.neg (by simp) hk
        · refine Ep.up ?_
          simp only [impl_burn.j2]
          exact Ep.neg (by simp) hk
      · rw [if_neg h] at he ⊢
        exact ih (i + 1) (by omega) he
theorem implBurn_l0 {n : Nat} {es : List E} {q : Int} (g : Gr n es q) (d : List Int) (hd : d.length = n) : ∀ (k : Nat) (b : List Int), n + 1 ≤ b.length + k → Burn n es (rd d) q b → Ep (fun f => impl_burn.l0 f d b (n : Int) es) (· = burnW n es (rd d) k b) := by
  have hn := g.n6
  intro k
  induction k with
  | zero =>
    intro b hl hb
    have := hb.len g.hq
    omega
  | succ k ih =>
    intro b hl hb
    have hok := hb.ok g.hq
    have hlen := hb.len g.hq
    refine Ep.up ?_
    simp only [impl_burn.l0]
    refine implBurn_l1 (Q := (· = burnW n es (rd d) (k + 1) b)) g d hd b ⟨hok.1, hok.2.1⟩ hlen ?_ n 0 (by omega) rfl
    unfold burnW
    have hnx := nextB_ok es (rd d) b n 0
    generalize nextB es (rd d) b n 0 = v at hnx ⊢
    refine Ep.ite (fun h => Ep.now ?_) (fun h => ?_)
    · rw [if_pos h]
    · rw [if_neg h]
      rcases hnx with ⟨h2, _⟩ | ⟨h2, h3, h4, h5⟩
      · omega
      · exact Ep.pos (by omega) (ih _ (by simp; omega) (hb.step (by omega) (by omega) h4 h5))
theorem implBurn {n : Nat} {es : List E} {q : Int} (g : Gr n es q) (d : List Int) (hd : d.length = n) : Ep (fun k => impl_burn.f k (n : Int) es d q) (· = burnF n es (rd d) q) := by
  have hn := g.n6
  simp only [impl_burn.f]
  exact implBurn_l0 g d hd n [q] (by simp; omega) .start
/-- Where a code is read. -/
def Cur (b : List Int) (i : Int) : Prop := 0 ≤ i ∧ i ≤ b.length
theorem and255 (y : Int) : 0 ≤ Go.bits .and .i64 y 255 ∧ Go.bits .and .i64 y 255 ≤ 255 := by
  have h : ((BitVec.ofInt 64 y) &&& (BitVec.ofInt 64 255)).toNat ≤ 255 := by
    rw [BitVec.toNat_and]
    exact Nat.le_trans Nat.and_le_right (by decide)
  have e : Go.bits .and .i64 y 255 = (((BitVec.ofInt 64 y) &&& (BitVec.ofInt 64 255)).toNat : Int) := by
    show Go.IntKind.wrap .i64 _ = _
    have e0 : ∀ m : Nat, m ≤ 255 → Go.IntKind.wrap .i64 (m : Int) = m := by
      intro m hm
      exact (wraps_i64 m (by omega) (by omega))
    exact e0 _ h
  rw [e]
  omega
theorem byte_ok {b : List Int} (hb : b.length ≤ 1048576) {i : Int} (h : Int) (hc : Cur b i) : ∃ x i' h', spec_l01Byte.f b i h = some (x, i', h') ∧ 0 ≤ x ∧ x ≤ 255 ∧ Cur b i' := by
  unfold Cur at *
  unfold spec_l01Byte.f
  split
  · rw [if_pos hc.1]
    exact ⟨_, _, _, rfl, (and255 _).1, (and255 _).2, by rw [wrap_id (by omega) (by omega)]; omega⟩
  · exact ⟨_, _, _, rfl, (and255 _).1, (and255 _).2, hc⟩
theorem below_ok {b : List Int} (hb : b.length ≤ 1048576) {i : Int} (h : Int) (hc : Cur b i) {a : Int} (h0 : 1 ≤ a) (h1 : a ≤ 256) : ∃ x i' h', spec_l01Below.f b i h a = some (x, i', h') ∧ 0 ≤ x ∧ x < a ∧ Cur b i' := by
  obtain ⟨x, i', h', e, x0, x1, hc'⟩ := byte_ok hb h hc
  refine ⟨Int.tmod x a, i', h', ?_, Int.tmod_nonneg _ x0, Int.tmod_lt_of_pos _ (by omega), hc'⟩
  unfold spec_l01Below.f
  rw [if_neg (by omega), if_pos h1, e]
  show (if a = 0 then none else some _) = _
  rw [if_neg (by omega)]
theorem cur_l0 (b : List Int) (hb : b.length ≤ 1048576) : ∀ (d i : Nat) (h : Int), i + d = b.length → Ep (fun k => spec_l01New.l0 k b h (i : Int)) (fun r => r.1 = b ∧ Cur b r.2.1) := by
  intro d
  induction d with
  | zero =>
    intro i h hi
    refine Ep.up ?_
    simp only [spec_l01New.l0]
    exact Ep.neg (by omega) (Ep.now ⟨rfl, by unfold Cur; simp⟩)
  | succ d ih =>
    intro i h hi
    refine Ep.up ?_
    simp only [spec_l01New.l0]
    refine Ep.pos (by omega) (Ep.ite (fun _ => Ep.pos (by omega) ?_) (fun _ => Ep.now ⟨rfl, by unfold Cur; simp⟩))
    rw [wrap_succ (by omega)]
    exact ih (i + 1) _ (by omega)
theorem cur_new (b : List Int) (hb : b.length ≤ 1048576) : Ep (fun k => spec_l01New.f k b) (fun r => r.1 = b ∧ Cur b r.2.1) := by
  simp only [spec_l01New.f]
  exact cur_l0 b hb b.length 0 _ (by omega)
theorem cur2_l0 (b : List Int) (hb : b.length ≤ 1048576) (n : Nat) (hn : n ≤ 1000) : ∀ (d j : Nat) (i h : Int), j + d = n → Cur b i → Ep (fun k => spec_l21New.l0 k (n : Int) (j : Int) b i h) (fun r => r.1 = b ∧ Cur b r.2.1) := by
  intro d
  induction d with
  | zero =>
    intro j i h hj hc
    refine Ep.up ?_
    simp only [spec_l21New.l0]
    exact Ep.neg (by omega) (Ep.now ⟨rfl, hc⟩)
  | succ d ih =>
    intro j i h hj hc
    obtain ⟨x, i', h', e, _, _, hc'⟩ := byte_ok hb h hc
    refine Ep.up ?_
    simp only [spec_l21New.l0]
    refine Ep.pos (by omega) (Ep.bind0 e ?_)
    rw [wrap_succ (by omega)]
    exact ih (j + 1) i' h' (by omega) hc'
theorem cur2_new (b : List Int) (hb : b.length ≤ 1048576) (n : Nat) (hn : n ≤ 1000) : Ep (fun k => spec_l21New.f k b (n : Int)) (fun r => r.1 = b ∧ Cur b r.2.1) := by
  simp only [spec_l21New.f]
  refine Ep.bind (cur_new b hb) ?_
  rintro ⟨b', i, h⟩ ⟨rfl, hc⟩
  exact cur2_l0 _ hb n hn n 0 i h (by omega) hc
theorem makeNum (b : List Int) (hb : b.length ≤ 1048576) (n : Nat) (hn : n ≤ 1000) : Ep (fun k => spec_MakeNum.f k b (n : Int)) (fun r => 0 ≤ r ∧ r ≤ 65535) := by
  simp only [spec_MakeNum.f]
  refine Ep.bind (cur2_new b hb n hn) ?_
  rintro ⟨b', i, h⟩ ⟨rfl, hc⟩
  obtain ⟨x, i1, h1, e1, x0, x1, hc1⟩ := byte_ok hb h hc
  refine Ep.bind0 e1 ?_
  obtain ⟨y, i2, h2, e2, y0, y1, hc2⟩ := byte_ok hb h1 hc1
  refine Ep.bind0 e2 (Ep.now ?_)
  dsimp only
  rw [wrap_id (x := x * 256) (by omega) (by omega), wrap_id (by omega) (by omega)]
  omega
theorem addE_true (es : List E) (hel : es.length ≤ 12) (n : Int) (e : E) : ∀ (d i : Nat) (acc : List E), i + d = es.length → acc.length ≤ i + 1 → Ep (fun k => spec_AddEdge.l0 k true es (es.length : Int) (i : Int) e.f0 e.f1 n acc) (· = (n, acc ++ es.drop i, true)) := by
  intro d
  induction d with
  | zero =>
    intro i acc hi ha
    refine Ep.up ?_
    simp only [spec_AddEdge.l0]
    refine Ep.neg (by omega) (Ep.pos trivial (Ep.now ?_))
    rw [List.drop_of_length_le (by omega), List.append_nil]
  | succ d ih =>
    intro i acc hi ha
    have hlt : i < es.length := by omega
    refine Ep.up ?_
    simp only [spec_AddEdge.l0]
    refine Ep.pos (by omega) (Ep.pos (by omega) (Ep.pos (by omega) (Ep.pos trivial (Ep.pos (by omega) ?_))))
    rw [rdE_get hlt, wrap_succ (by omega)]
    refine (ih (i + 1) _ (by omega) (by simp; omega)).mono ?_
    rintro _ rfl
    rw [List.drop_eq_getElem_cons hlt, List.append_assoc]
    rfl
theorem insE_cons (e x : E) (r : List E) : insE e (x :: r) = if x.f0 > e.f0 ∨ (x.f0 = e.f0 ∧ x.f1 > e.f1) then e :: x :: r else x :: insE e r := rfl
theorem addE_l0 (es : List E) (hel : es.length ≤ 12) (n : Int) (e : E) : ∀ (d i : Nat) (acc : List E), i + d = es.length → acc.length ≤ i → Ep (fun k => spec_AddEdge.l0 k false es (es.length : Int) (i : Int) e.f0 e.f1 n acc) (· = (n, acc ++ insE e (es.drop i), true)) := by
  intro d
  induction d with
  | zero =>
    intro i acc hi ha
    refine Ep.up ?_
    simp only [spec_AddEdge.l0]
    refine Ep.neg (by omega) (Ep.neg (by simp) (Ep.pos (by omega) (Ep.now ?_)))
    rw [List.drop_of_length_le (by omega)]
    rfl
  | succ d ih =>
    intro i acc hi ha
    have hlt : i < es.length := by omega
    refine Ep.up ?_
    simp only [spec_AddEdge.l0]
    refine Ep.pos (by omega) (Ep.pos (by omega) (Ep.pos (by omega) (Ep.neg (by simp) ?_)))
    rw [rdE_get hlt, wrap_succ (by omega), List.drop_eq_getElem_cons hlt]
    have put : ∀ (hx : es[i].f0 > e.f0 ∨ (es[i].f0 = e.f0 ∧ es[i].f1 > e.f1)), Ep (fun k => (some (acc ++ [(⟨e.f0, e.f1⟩ : E)])).bind fun y => if y.length < 8796093022208 then spec_AddEdge.l0 k true es (es.length : Int) ((i + 1 : Nat) : Int) e.f0 e.f1 n (y ++ [(⟨es[i].f0, es[i].f1⟩ : E)]) else none) (· = (n, acc ++ insE e (es[i] :: es.drop (i + 1)), true)) := by
      intro hx
      refine Ep.bind0 rfl (Ep.pos (by simp; omega) ?_)
      refine (addE_true es hel n e d (i + 1) _ (by omega) (by simp; omega)).mono ?_
      rintro _ rfl
      unfold insE
      rw [if_pos hx]
      simp only [List.append_assoc, List.cons_append, List.nil_append]
    have go : ∀ (hx : ¬ (es[i].f0 > e.f0 ∨ (es[i].f0 = e.f0 ∧ es[i].f1 > e.f1))), Ep (fun k => spec_AddEdge.l0 k false es (es.length : Int) ((i + 1 : Nat) : Int) e.f0 e.f1 n (acc ++ [(⟨es[i].f0, es[i].f1⟩ : E)])) (· = (n, acc ++ insE e (es[i] :: es.drop (i + 1)), true)) := by
      intro hx
      refine (ih (i + 1) _ (by omega) (by simp; omega)).mono ?_
      rintro _ rfl
      rw [List.append_assoc, insE_cons, if_neg hx]
      rfl
    refine Ep.ite (fun h1 => Ep.pos (by omega) (put (.inl h1))) (fun h1 => Ep.ite (fun h2 => Ep.ite (fun h3 => Ep.pos (by omega) (put (.inr ⟨h2, h3⟩))) (fun h3 => Ep.pos (by omega) (go (by omega)))) (fun h2 => Ep.pos (by omega) (go (by omega))))
theorem addE_ok {n : Int} {es : List E} (hg : GOk n es) (a b : Int) : Ep (fun k => spec_AddEdge.f k n es a b) (fun r => r.2.2 = true → r.1 = n ∧ GOk n r.2.1) := by
  have hG := hg.1
  unfold EsOk at hG
  have hw : wrap64 (n - 1) = n - 1 := wrap_id (by omega) (by omega)
  have no : Ep (fun k => spec_AddEdge.j0 k a b true n es) (fun r => r.2.2 = true → r.1 = n ∧ GOk n r.2.1) := by
    refine Ep.up ?_
    simp only [spec_AddEdge.j0]
    exact Ep.pos trivial (Ep.now (fun h => by cases h))
  simp only [spec_AddEdge.f]
  refine Ep.bind (specGraph n es) ?_
  rintro _ rfl
  rw [gOk_iff.2 hg]
  refine Ep.pos rfl (Ep.bind0 (l01In_eq _ _ _) (Ep.ite (fun h1 => ?_) (fun _ => no)))
  refine Ep.bind0 (l01In_eq _ _ _) (Ep.ite (fun h2 => ?_) (fun _ => no))
  rw [decide_eq_true_eq, hw] at h1 h2
  refine Ep.ite (fun _ => no) (fun h3 => ?_)
  refine Ep.up ?_
  simp only [spec_AddEdge.j0]
  refine Ep.ite (fun _ => Ep.now (fun h => by cases h)) (fun h4 => ?_)
  have h5 : es.length ≠ 12 := by
    intro h
    rw [h] at h4
    exact h4 rfl
  refine (addE_l0 es hG.2.2.1 n ⟨mn a b, mx a b⟩ es.length 0 [] (by omega) (by simp)).mono ?_
  rintro _ rfl _
  refine ⟨rfl, gOk_ins hg h5 ?_⟩
  unfold EOk mn mx
  dsimp only
  split <;> split <;> omega
/-- The rows below a; of row a what lies below b. -/
def hTo (t : List E) (n a b : Nat) : List E := (List.range a).flatMap (hRow t n) ++ (List.range b).flatMap fun c => if a < c then List.replicate (mult t a c).toNat ⟨a, c⟩ else []
theorem hTo_start (t : List E) (n a : Nat) : hTo t n a (a + 1) = (List.range a).flatMap (hRow t n) := by
  have h : ((List.range (a + 1)).flatMap fun c => if a < c then List.replicate (mult t a c).toNat (⟨a, c⟩ : E) else []) = [] := List.flatMap_eq_nil_iff.2 fun c hc => by rw [if_neg (by have := List.mem_range.1 hc; omega)]
  unfold hTo
  rw [h, List.append_nil]
theorem hTo_end (t : List E) (n a : Nat) : hTo t n a n = (List.range (a + 1)).flatMap (hRow t n) := by
  unfold hTo
  rw [List.range_succ, List.flatMap_append]
  simp [hRow]
theorem hTo_next (t : List E) (n a b : Nat) (h : a < b) : hTo t n a (b + 1) = hTo t n a b ++ List.replicate (mult t a b).toNat ⟨a, b⟩ := by
  unfold hTo
  rw [List.range_succ (n := b), List.flatMap_append, ← List.append_assoc]
  simp [h]
theorem len_flat_le (C : Nat) (f : Nat → List E) (h : ∀ i, (f i).length ≤ C) : ∀ n : Nat, ((List.range n).flatMap f).length ≤ C * n := by
  intro n
  induction n with
  | zero => simp
  | succ n ih =>
    rw [List.range_succ, List.flatMap_append, List.length_append]
    have := h n
    simp only [List.flatMap_cons, List.flatMap_nil, List.append_nil]
    rw [Nat.mul_succ]
    omega
theorem hTo_len (t : List E) (ht : t.length ≤ 12) (n a b : Nat) (hn : n ≤ 6) (ha : a ≤ 6) (hb : b ≤ 6) : (hTo t n a b).length ≤ 1000 := by
  have hr : ∀ a c : Nat, (if a < c then List.replicate (mult t a c).toNat (⟨a, c⟩ : E) else []).length ≤ 12 := by
    intro a c
    have := mult_le t a c
    split
    · rw [List.length_replicate]; omega
    · simp
  have h1 : ∀ a, (hRow t n a).length ≤ 72 := fun a => Nat.le_trans (len_flat_le 12 _ (hr a) n) (by omega)
  have h2 := len_flat_le 72 (hRow t n) h1 a
  have h3 := len_flat_le 12 _ (hr a) b
  unfold hTo
  rw [List.length_append]
  omega
/-- What is drawn. -/
def DrawOk (b : List Int) (most : Int) (r : Int × List E × Int × Int) : Prop := ∃ n : Nat, r.1 = n ∧ 2 ≤ n ∧ (n : Int) ≤ most ∧ GOk (n : Int) r.2.1 ∧ Cur b r.2.2.1
theorem draw_l4 {b : List Int} (hb : b.length ≤ 1048576) {n : Nat} (h2 : 2 ≤ n) (h6 : n ≤ 6) {most : Int} (hm : (n : Int) ≤ most) : ∀ (c : Nat) (es : List E) (i h : Int), c ≤ 10 → GOk (n : Int) es → Cur b i → Ep (fun k => spec_l02Draw.l4 k (n : Int) (c : Int) b i h (n : Int) es) (DrawOk b most) := by
  intro c
  induction c with
  | zero =>
    intro es i h _ hg hc
    refine Ep.up ?_
    simp only [spec_l02Draw.l4]
    exact Ep.neg (by omega) (Ep.now ⟨n, rfl, h2, hm, hg, hc⟩)
  | succ c ih =>
    intro es i h hc10 hg hc
    refine Ep.up ?_
    simp only [spec_l02Draw.l4]
    refine Ep.pos (by omega) ?_
    obtain ⟨x, i1, h1, e1, x0, x1, hc1⟩ := below_ok hb h hc (a := (n : Int)) (by omega) (by omega)
    refine Ep.bind0 e1 ?_
    rw [show wrap64 ((n : Int) - 1) = n - 1 from wrap_id (by omega) (by omega)]
    obtain ⟨y, i2, h2', e2, y0, y1, hc2⟩ := below_ok hb h1 hc1 (a := (n : Int) - 1) (by omega) (by omega)
    refine Ep.bind0 e2 (Ep.neg (by omega) ?_)
    rw [show wrap64 (((c + 1 : Nat) : Int) - 1) = c from by rw [wrap_id (by omega) (by omega)]; omega]
    refine Ep.bind (addE_ok hg _ _) ?_
    rintro ⟨n', es', ok⟩ hr
    refine Ep.ite (fun h3 => ?_) (fun _ => ih es i2 h2' (by omega) hg hc2)
    obtain ⟨h4, h5⟩ := hr h3
    dsimp only at h4 h5
    subst h4
    exact ih es' i2 h2' (by omega) h5 hc2
theorem draw_l3 {b : List Int} {n a c : Int} {t : List E} {i h : Int} {Q : Int × List E × Int × Int → Prop} : ∀ (m : Nat) (acc : List E), m ≤ 20 → acc.length + m ≤ 2000 → Ep (fun k => spec_l02Draw.l2 k n a (wrap64 (c + 1)) b i h n t n (acc ++ List.replicate m ⟨a, c⟩)) Q →
    Ep (fun k => spec_l02Draw.l3 k n a c (m : Int) b i h n t n acc) Q := by
  intro m
  induction m with
  | zero =>
    intro acc _ hl hk
    refine Ep.up ?_
    simp only [spec_l02Draw.l3]
    refine Ep.neg (by omega) ?_
    simpa using hk
  | succ m ih =>
    intro acc hm hl hk
    refine Ep.up ?_
    simp only [spec_l02Draw.l3]
    refine Ep.pos (by omega) (Ep.pos (by omega) ?_)
    rw [show wrap64 (((m + 1 : Nat) : Int) - 1) = m from by rw [wrap_id (by omega) (by omega)]; omega]
    refine ih _ (by omega) (by simp; omega) ?_
    rw [List.append_assoc, show [(⟨a, c⟩ : E)] ++ List.replicate m ⟨a, c⟩ = List.replicate (m + 1) ⟨a, c⟩ from rfl]
    exact hk
theorem draw_l2 {b : List Int} {n : Nat} (h6 : n ≤ 6) {t : List E} (ht : TreeE n t) {i h : Int} {a : Nat} (ha : a < n) {Q : Int × List E × Int × Int → Prop}
    (hk : Ep (fun k => spec_l02Draw.l1 k (n : Int) ((a + 1 : Nat) : Int) b i h (n : Int) t (n : Int) ((List.range (a + 1)).flatMap (hRow t n))) Q) : ∀ (d c : Nat), c + d = n → a < c →
    Ep (fun k => spec_l02Draw.l2 k (n : Int) (a : Int) (c : Int) b i h (n : Int) t (n : Int) (hTo t n a c)) Q := by
  have hl := ht.len
  intro d
  induction d with
  | zero =>
    intro c hc hac
    refine Ep.up ?_
    simp only [spec_l02Draw.l2]
    obtain rfl : c = n := by omega
    refine Ep.neg (by omega) ?_
    rw [wrap_succ (by omega), hTo_end]
    exact hk
  | succ d ih =>
    intro c hc hac
    refine Ep.up ?_
    simp only [spec_l02Draw.l2]
    refine Ep.pos (by omega) (Ep.bind (specMult (n : Int) t ht.ok (by omega) (a : Int) (c : Int) (by omega) (by omega)) ?_)
    rintro _ rfl
    have hm0 := mult_nonneg t (a : Int) (c : Int)
    have hm1 := mult_le t (a : Int) (c : Int)
    have hlen := hTo_len t (by omega) n a c h6 (by omega) (by omega)
    obtain ⟨m, hm⟩ := Int.eq_ofNat_of_zero_le hm0
    rw [hm]
    refine draw_l3 m _ (by omega) (by omega) ?_
    rw [wrap_succ (by omega)]
    have := ih (c + 1) (by omega) (by omega)
    rw [hTo_next t n a c hac, hm] at this
    exact this
theorem draw_l1 {b : List Int} (hb : b.length ≤ 1048576) {n : Nat} (h2 : 2 ≤ n) (h6 : n ≤ 6) {most : Int} (hm : (n : Int) ≤ most) {t : List E} (ht : TreeE n t) {i h : Int} (hc : Cur b i) : ∀ (d a : Nat), a + d = n →
    Ep (fun k => spec_l02Draw.l1 k (n : Int) (a : Int) b i h (n : Int) t (n : Int) ((List.range a).flatMap (hRow t n))) (DrawOk b most) := by
  intro d
  induction d with
  | zero =>
    intro a ha
    refine Ep.up ?_
    simp only [spec_l02Draw.l1]
    obtain rfl : a = n := by omega
    refine Ep.neg (by omega) ?_
    obtain ⟨x, i1, h1, e1, x0, x1, hc1⟩ := below_ok hb h hc (a := 5) (by omega) (by omega)
    refine Ep.bind0 e1 ?_
    obtain ⟨c, rfl⟩ := Int.eq_ofNat_of_zero_le x0
    exact draw_l4 hb h2 h6 hm c _ i1 h1 (by omega) (ht.gOk h6) hc1
  | succ d ih =>
    intro a ha
    refine Ep.up ?_
    simp only [spec_l02Draw.l1]
    refine Ep.pos (by omega) ?_
    rw [wrap_succ (by omega), ← hTo_start]
    exact draw_l2 h6 ht (by omega) (ih (a + 1) (by omega)) (n - (a + 1)) (a + 1) (by omega) (by omega)
theorem draw_l0 {b : List Int} (hb : b.length ≤ 1048576) {n : Nat} (h2 : 2 ≤ n) (h6 : n ≤ 6) {most : Int} (hm : (n : Int) ≤ most) : ∀ (d v : Nat) (t : List E) (i h : Int), v + d = n → 1 ≤ v → TreeE v t → Cur b i →
    Ep (fun k => spec_l02Draw.l0 k (n : Int) (v : Int) b i h (v : Int) t) (DrawOk b most) := by
  intro d
  induction d with
  | zero =>
    intro v t i h hv h1 ht hc
    refine Ep.up ?_
    simp only [spec_l02Draw.l0]
    obtain rfl : v = n := by omega
    refine Ep.neg (by omega) ?_
    exact draw_l1 hb h2 h6 hm ht hc v 0 (by omega)
  | succ d ih =>
    intro v t i h hv h1 ht hc
    have hl := ht.len
    refine Ep.up ?_
    simp only [spec_l02Draw.l0]
    obtain ⟨x, i1, h1', e1, x0, x1, hc1⟩ := below_ok hb h hc (a := (v : Int)) (by omega) (by omega)
    refine Ep.pos (by omega) (Ep.bind0 e1 (Ep.pos (by omega) ?_))
    rw [wrap_succ (by omega)]
    exact ih (v + 1) _ i1 h1' (by omega) (by omega) (ht.next x0 x1) hc1
theorem draw_ok {b : List Int} (hb : b.length ≤ 1048576) {i : Int} (h : Int) (hc : Cur b i) {most : Int} (h3 : 2 ≤ most) (h5 : most ≤ 6) : Ep (fun k => spec_l02Draw.f k b i h most) (DrawOk b most) := by
  simp only [spec_l02Draw.f]
  rw [wrap_id (x := most - 1) (by omega) (by omega)]
  obtain ⟨x, i1, h1, e1, x0, x1, hc1⟩ := below_ok hb h hc (a := most - 1) (by omega) (by omega)
  refine Ep.bind0 e1 ?_
  dsimp only
  obtain ⟨c, rfl⟩ := Int.eq_ofNat_of_zero_le x0
  rw [show wrap64 (2 + (c : Int)) = ((2 + c : Nat) : Int) from by rw [wrap_id (by omega) (by omega)]; omega]
  exact draw_l0 hb (by omega) (by omega) (by omega) (1 + c) 1 [] i1 h1 (by omega) (by omega) .start hc1
theorem makeGraph (b : List Int) (hb : b.length ≤ 1048576) : Ep (fun k => spec_MakeGraph.f k b) (fun r => ∃ n : Nat, r.1 = n ∧ 2 ≤ n ∧ n ≤ 5 ∧ GOk (n : Int) r.2) := by
  simp only [spec_MakeGraph.f]
  refine Ep.bind (cur_new b hb) ?_
  rintro ⟨b', i, h⟩ ⟨rfl, hc⟩
  refine Ep.bind (P := DrawOk b' 5) ?_ ?_
  · simp only [spec_l02Graph.f]
    refine Ep.bind (draw_ok hb h hc (by omega) (by omega)) ?_
    intro a ha
    exact Ep.now ha
  · rintro ⟨n', es, _, _⟩ ⟨n, hn, h2, h5, hg, _⟩
    exact Ep.now ⟨n, hn, h2, by omega, hg⟩
theorem pile_l0 {b : List Int} (hb : b.length ≤ 1048576) {n : Nat} (h6 : n ≤ 6) {q : Int} (hq : 0 ≤ q ∧ q < n) (es : List E) : ∀ (d v : Nat) (x : List Int) (i h : Int), v + d = n → x.length = v → (∀ y ∈ x, 0 ≤ y ∧ y ≤ 6) → Cur b i →
    Ep (fun k => spec_l10Draw.l0 k q x (v : Int) b i h (n : Int) es) (fun r => ∃ x : List Int, x.length = n ∧ (∀ y ∈ x, 0 ≤ y ∧ y ≤ 6) ∧ r.1 = x.set q.toNat 0) := by
  intro d
  induction d with
  | zero =>
    intro v x i h hv hx hy hc
    refine Ep.up ?_
    simp only [spec_l10Draw.l0]
    refine Ep.neg (by omega) (Ep.pos (by omega) (Ep.pos (by omega) (Ep.pos (by omega) (Ep.now ?_))))
    exact ⟨x, by omega, hy, rfl⟩
  | succ d ih =>
    intro v x i h hv hx hy hc
    obtain ⟨z, i1, h1, e1, z0, z1, hc1⟩ := below_ok hb h hc (a := 7) (by omega) (by omega)
    refine Ep.up ?_
    simp only [spec_l10Draw.l0]
    refine Ep.pos (by omega) (Ep.bind0 e1 (Ep.pos (by omega) ?_))
    rw [wrap_succ (by omega)]
    refine ih (v + 1) _ i1 h1 (by omega) (by simp; omega) ?_ hc1
    intro y hy'
    rcases List.mem_append.1 hy' with hy' | hy'
    · exact hy y hy'
    · rw [List.mem_singleton.1 hy']
      dsimp only
      omega
/-- A drawn configuration. -/
structure Pl (n : Nat) (q : Int) (p : List Int) : Prop where
  len : p.length = n
  bd : ∀ y ∈ p, 0 ≤ y ∧ y ≤ 6
  hq : rd p q = 0
theorem makePile (b : List Int) (hb : b.length ≤ 1048576) (m : Nat) (hm : m ≤ 1000) {n : Nat} (h6 : n ≤ 6) {q : Int} (hq : 0 ≤ q ∧ q < n) (es : List E) : Ep (fun k => spec_MakePile.f k b (m : Int) (n : Int) es q) (Pl n q) := by
  simp only [spec_MakePile.f]
  refine Ep.bind (cur2_new b hb m hm) ?_
  rintro ⟨b', i, h⟩ ⟨rfl, hc⟩
  refine Ep.bind (P := fun r => ∃ x : List Int, x.length = n ∧ (∀ y ∈ x, 0 ≤ y ∧ y ≤ 6) ∧ r.1 = x.set q.toNat 0) ?_ ?_
  · simp only [spec_l10Draw.f]
    exact pile_l0 hb h6 hq es n 0 [] i h (by omega) rfl (by simp) hc
  · rintro ⟨p, _, _⟩ ⟨x, hx, hy, hp⟩
    dsimp only at hp
    subst hp
    refine Ep.now ⟨by simpa using hx, fun y hm => ?_, ?_⟩
    · rcases List.mem_or_eq_of_mem_set hm with h | h
      · exact hy y h
      · omega
    · have hl : q.toNat < x.length := by omega
      unfold rd
      simp [List.getD, List.getElem?_set_self hl]
end Go.Proofs.Ytgobnfeahffnaaa.Cf
end

section
namespace Go.Proofs.Ytgobnfeahffnaaa.P
open Go.RowKit Go.Proofs.YtgobnfeahffnaaaW.PrintWords Go.Proofs.YtgobnfeahffnaaaW.PrintLast Go.Proofs.YtgobnfeahffnaaaW.PrintMore
attribute [local go_sem] max2_int min2_int max_two min_two max_three min_three max_four min_four
set_option linter.unusedVariables false
set_option linter.unusedSimpArgs false
def laws_has.l0 : Nat → Int → List Int → Int → Int → Option (Bool)
 | 0, _, _, _, _ => none
 | k + 1, x1, x7, x8, x9 => if x9 < x8 then (if 0 ≤ x9 then (if x9 < (x7.length : Int) then (if (rd x7 x9) = x1 then (some true) else (laws_has.l0 k x1 x7 x8 (wrap64 (x9 + 1)))) else (none)) else (none)) else (some false)
def laws_has.f (k : Nat) (l0 : List Int) (a1 : Int) : Option (Bool) := laws_has.l0 k a1 l0 (l0.length : Int) 0
theorem laws_has.mono_l : ∀ k, (∀ y0 y1 y2 y3, LeO (laws_has.l0 k y0 y1 y2 y3) (laws_has.l0 (k + 1) y0 y1 y2 y3))
 | 0 => fun _ _ _ _ r h => by simp [laws_has.l0] at h
 | k + 1 => by
  have ih0 := laws_has.mono_l k
  ·intro y0 y1 y2 y3
   unfold laws_has.l0
   exact zm0
theorem laws_has.mono : ∀ a0 a1 k, LeO (laws_has.f k a0 a1) (laws_has.f (k + 1) a0 a1) := by
 intro a0 a1 k; have ih0 := laws_has.mono_l k; unfold laws_has.f; exact zm0
end Go.Proofs.Ytgobnfeahffnaaa.P
end

section
namespace Go.Proofs.Ytgobnfeahffnaaa.Cf
set_option linter.unusedVariables false
set_option linter.unusedSimpArgs false
open Go.RowKit Go.Proofs.YtgobnfeahffnaaaW.PrintWords Go.Proofs.Ytgobnfeahffnaaa.P
theorem same_l0 (a b : List Int) (hl : a.length = b.length) (hb : a.length ≤ 1048576) : ∀ (d i : Nat), i + d = a.length → Ep (fun k => laws_same.l0 k b a (a.length : Int) (i : Int)) (· = decide (a.drop i = b.drop i)) := by
  intro d
  induction d with
  | zero =>
    intro i hi
    refine Ep.up ?_
    simp only [laws_same.l0]
    refine Ep.neg (by omega) (Ep.now ?_)
    rw [List.drop_of_length_le (by omega), List.drop_of_length_le (by omega)]
    rfl
  | succ d ih =>
    intro i hi
    have h1 : i < a.length := by omega
    have h2 : i < b.length := by omega
    refine Ep.up ?_
    simp only [laws_same.l0]
    refine Ep.pos (by omega) (Ep.pos (by omega) (Ep.pos (by omega) (Ep.pos (by omega) ?_)))
    rw [rd_get h1, rd_get h2, wrap_succ (by omega), List.drop_eq_getElem_cons h1, List.drop_eq_getElem_cons h2]
    refine Ep.ite (fun h => (ih (i + 1) (by omega)).mono ?_) (fun h => Ep.now ?_)
    · rintro _ rfl
      rw [h]
      simp only [List.cons.injEq, true_and]
    · rw [eq_comm, decide_eq_false_iff_not]
      intro e
      exact h (List.cons.inj e).1
theorem same_ok (a b : List Int) (hb : a.length ≤ 1048576) : Ep (fun k => laws_same.f k a b) (· = decide (a = b)) := by
  simp only [laws_same.f]
  refine Ep.ite (fun h => ?_) (fun h => Ep.now ?_)
  · simpa using same_l0 a b (by omega) hb a.length 0 (by omega)
  · rw [eq_comm, decide_eq_false_iff_not]
    intro e
    exact h (by rw [e])
theorem same_yes {a b : List Int} (h : a = b) (hb : a.length ≤ 1048576) : Ep (fun k => laws_same.f k a b) (· = true) := (same_ok a b hb).mono (by rintro _ rfl; simpa using h)
theorem Pl.bd6 {n : Nat} {q : Int} {p : List Int} (h : Pl n q p) : ∀ v : Int, 0 ≤ v → v < n → 0 ≤ rd p v ∧ rd p v ≤ 6 := fun v v0 v1 => by
  obtain ⟨i, rfl⟩ := Int.eq_ofNat_of_zero_le v0
  have hi : i < p.length := by have := h.len; omega
  rw [rd_get hi]
  exact h.bd _ (List.getElem_mem hi)
end Go.Proofs.Ytgobnfeahffnaaa.Cf
end

section
namespace Go.Proofs.Ytgobnfeahffnaaa.P
open Go.RowKit Go.Proofs.YtgobnfeahffnaaaW.PrintWords Go.Proofs.YtgobnfeahffnaaaW.PrintLast Go.Proofs.YtgobnfeahffnaaaW.PrintMore
attribute [local go_sem] max2_int min2_int max_two min_two max_three min_three max_four min_four
set_option linter.unusedVariables false
set_option linter.unusedSimpArgs false
def spec_l05Debt.l0 : Nat → Int → List Int → Int → Int → Option (Bool)
 | 0, _, _, _, _ => none
 | k + 1, x1, x7, x8, x9 => if x9 < x8 then (if 0 ≤ x9 then (if x9 < (x7.length : Int) then (if x9 = x1 then (spec_l05Debt.l0 k x1 x7 x8 (wrap64 (x9 + 1))) else (if (rd x7 x9) < 0 then (some true) else (spec_l05Debt.l0 k x1 x7 x8 (wrap64 (x9 + 1))))) else (none)) else (none)) else (some false)
def spec_l05Debt.f (k : Nat) (l0 : List Int) (a1 : Int) : Option (Bool) := spec_l05Debt.l0 k a1 l0 (l0.length : Int) 0
theorem spec_l05Debt.mono_l : ∀ k, (∀ y0 y1 y2 y3, LeO (spec_l05Debt.l0 k y0 y1 y2 y3) (spec_l05Debt.l0 (k + 1) y0 y1 y2 y3))
 | 0 => fun _ _ _ _ r h => by simp [spec_l05Debt.l0] at h
 | k + 1 => by
  have ih0 := spec_l05Debt.mono_l k
  ·intro y0 y1 y2 y3
   unfold spec_l05Debt.l0
   exact zm0
theorem spec_l05Debt.mono : ∀ a0 a1 k, LeO (spec_l05Debt.f k a0 a1) (spec_l05Debt.f (k + 1) a0 a1) := by
 intro a0 a1 k; have ih0 := spec_l05Debt.mono_l k; unfold spec_l05Debt.f; exact zm0
mutual
def spec_l05Reduce.l0 : Nat → List Int → Int → List Int → List Int → Int → List (S83) → Option (List Int × List Int)
 | 0, _, _, _, _, _, _ => none
 | k + 1, x1, x2, x8, x9, x102000, x102001 => (spec_l05Debt.f k x9 x2).bind fun t111 => (if t111 = true then (spec_l05Reduce.l1 k x1 x2 x8 x9 (x9.length : Int) 0 x102000 x102001) else (spec_l05Reduce.l2 k x1 x2 x8 x9 x102000 x102001))
def spec_l05Reduce.l1 : Nat → List Int → Int → List Int → List Int → Int → Int → Int → List (S83) → Option (List Int × List Int)
 | 0, _, _, _, _, _, _, _, _ => none
 | k + 1, x1, x2, x8, x9, x23, x24, x102000, x102001 => if x24 < x23 then (if x24 = x2 then (spec_l05Reduce.l1 k x1 x2 x8 x9 x23 (wrap64 (x24 + 1)) x102000 x102001) else (if 0 ≤ x24 then (if x24 < (x9.length : Int) then (if (rd x9 x24) < 0 then (if x24 < (x8.length : Int) then ((some (x8.set (x24 : Int).toNat (wrap64 ((rd x8 x24) - 1)) : List Int)).bind fun y114 => ((spec_l04Fire.f k x102000 x102001 x1 y114).bind fun t115 => (spec_l05Reduce.l1 k x1 x2 y114 t115 x23 (wrap64 (x24 + 1)) x102000 x102001))) else (none)) else (spec_l05Reduce.l1 k x1 x2 x8 x9 x23 (wrap64 (x24 + 1)) x102000 x102001)) else (none)) else (none))) else (spec_l05Reduce.l0 k x1 x2 x8 x9 x102000 x102001)
def spec_l05Reduce.l2 : Nat → List Int → Int → List Int → List Int → Int → List (S83) → Option (List Int × List Int)
 | 0, _, _, _, _, _, _ => none
 | k + 1, x1, x2, x8, x9, x102000, x102001 => (spec_l05Burn.f k x102000 x102001 x9 x2).bind fun t118 => (if (t118.length : Int) = x102000 then (some (x9, x8)) else (spec_l05Reduce.l3 k x1 x2 x8 t118 0 x102000 x102001))
def spec_l05Reduce.l3 : Nat → List Int → Int → List Int → List Int → Int → Int → List (S83) → Option (List Int × List Int)
 | 0, _, _, _, _, _, _, _ => none
 | k + 1, x1, x2, x8, x11, x12, x102000, x102001 => if x12 < x102000 then ((spec_l02Has.f k x11 x12).bind fun t121 => (if t121 = true then (spec_l05Reduce.l3 k x1 x2 x8 x11 (wrap64 (x12 + 1)) x102000 x102001) else (if 0 ≤ x12 then (if x12 < (x8.length : Int) then (spec_l05Reduce.l3 k x1 x2 (x8.set (x12 : Int).toNat (wrap64 ((rd x8 x12) + 1))) x11 (wrap64 (x12 + 1)) x102000 x102001) else (none)) else (none)))) else ((spec_l04Fire.f k x102000 x102001 x1 x8).bind fun t124 => (spec_l05Reduce.l2 k x1 x2 x8 t124 x102000 x102001))
end
def spec_l05Reduce.f (k : Nat) (a0_0 : Int) (l0_1 : List (S83)) (l1 : List Int) (a2 : Int) : Option (List Int × List Int) := if 0 ≤ a0_0 then (if (a0_0 : Int).toNat ≤ 35184372088832 then ((some (([] : List Int) : List Int)).bind fun y105 => (if y105.length + l1.length < 17592186044416 then (spec_l05Reduce.l0 k l1 a2 (List.replicate (a0_0 : Int).toNat 0) (y105 ++ l1) a0_0 l0_1) else (none))) else (none)) else (none)
theorem spec_l05Reduce.mono_l : ∀ k, (∀ y0 y1 y2 y3 y4 y5, LeO (spec_l05Reduce.l0 k y0 y1 y2 y3 y4 y5) (spec_l05Reduce.l0 (k + 1) y0 y1 y2 y3 y4 y5)) ∧ (∀ y0 y1 y2 y3 y4 y5 y6 y7, LeO (spec_l05Reduce.l1 k y0 y1 y2 y3 y4 y5 y6 y7) (spec_l05Reduce.l1 (k + 1) y0 y1 y2 y3 y4 y5 y6 y7)) ∧ (∀ y0 y1 y2 y3 y4 y5, LeO (spec_l05Reduce.l2 k y0 y1 y2 y3 y4 y5) (spec_l05Reduce.l2 (k + 1) y0 y1 y2 y3 y4 y5)) ∧ (∀ y0 y1 y2 y3 y4 y5 y6, LeO (spec_l05Reduce.l3 k y0 y1 y2 y3 y4 y5 y6) (spec_l05Reduce.l3 (k + 1) y0 y1 y2 y3 y4 y5 y6))
 | 0 => ⟨fun _ _ _ _ _ _ r h => by simp [spec_l05Reduce.l0] at h, fun _ _ _ _ _ _ _ _ r h => by simp [spec_l05Reduce.l1] at h, fun _ _ _ _ _ _ r h => by simp [spec_l05Reduce.l2] at h, fun _ _ _ _ _ _ _ r h => by simp [spec_l05Reduce.l3] at h⟩
 | k + 1 => by
  obtain ⟨ih0, ih1, ih2, ih3⟩ := spec_l05Reduce.mono_l k
  refine ⟨?_, ?_, ?_, ?_⟩
  ·intro y0 y1 y2 y3 y4 y5
   unfold spec_l05Reduce.l0
   exact zm3
  ·intro y0 y1 y2 y3 y4 y5 y6 y7
   unfold spec_l05Reduce.l1
   exact zm3
  ·intro y0 y1 y2 y3 y4 y5
   unfold spec_l05Reduce.l2
   exact zm3
  ·intro y0 y1 y2 y3 y4 y5 y6
   unfold spec_l05Reduce.l3
   exact zm3
theorem spec_l05Reduce.mono : ∀ a0 a1 a2 a3 k, LeO (spec_l05Reduce.f k a0 a1 a2 a3) (spec_l05Reduce.f (k + 1) a0 a1 a2 a3) := by
 intro a0 a1 a2 a3 k; obtain ⟨ih0, ih1, ih2, ih3⟩ := spec_l05Reduce.mono_l k; unfold spec_l05Reduce.f; exact zm3
end Go.Proofs.Ytgobnfeahffnaaa.P
end

section
namespace Go.Proofs.Ytgobnfeahffnaaa.Cf
set_option linter.unusedVariables false
set_option linter.unusedSimpArgs false
open Go.RowKit Go.Proofs.YtgobnfeahffnaaaW.PrintWords Go.Proofs.Ytgobnfeahffnaaa.P
theorem specDebt_l0 (q : Int) (p : List Int) (hl : p.length ≤ 1048576) : ∀ (d i : Nat), i + d = p.length → Ep (fun k => spec_l05Debt.l0 k q p (p.length : Int) (i : Int)) (· = decide (0 ≤ debtF q p d i)) := by
  intro d
  induction d with
  | zero =>
    intro i hi
    refine Ep.up ?_
    simp only [spec_l05Debt.l0]
    exact Ep.neg (by omega) (Ep.now rfl)
  | succ d ih =>
    intro i hi
    refine Ep.up ?_
    simp only [spec_l05Debt.l0]
    refine Ep.pos (by omega) (Ep.pos (by omega) (Ep.pos (by omega) ?_))
    rw [wrap_succ (by omega)]
    unfold debtF
    refine Ep.ite (fun h => ?_) (fun h => ?_)
    · rw [if_pos h]
      exact ih (i + 1) (by omega)
    · rw [if_neg h]
      refine Ep.ite (fun h2 => Ep.now ?_) (fun h2 => ?_)
      · rw [if_pos h2]
        have : (0 : Int) ≤ i := by omega
        simp
      · rw [if_neg h2]
        exact ih (i + 1) (by omega)
theorem specDebt (p : List Int) (q : Int) (hl : p.length ≤ 1048576) : Ep (fun k => spec_l05Debt.f k p q) (· = decide (0 ≤ debtF q p p.length 0)) := by
  simp only [spec_l05Debt.f]
  exact specDebt_l0 q p hl p.length 0 (by omega)
theorem implDebt_l0 (q : Int) (p : List Int) (hl : p.length ≤ 1048576) : ∀ (d i : Nat), i + d = p.length → Ep (fun k => impl_inDebt.l0 k q p (p.length : Int) (i : Int)) (· = debtF q p d i) := by
  intro d
  induction d with
  | zero =>
    intro i hi
    refine Ep.up ?_
    simp only [impl_inDebt.l0]
    exact Ep.neg (by omega) (Ep.now rfl)
  | succ d ih =>
    intro i hi
    refine Ep.up ?_
    simp only [impl_inDebt.l0]
    refine Ep.pos (by omega) (Ep.pos (by omega) (Ep.pos (by omega) ?_))
    rw [wrap_succ (by omega)]
    unfold debtF
    refine Ep.ite (fun h => ?_) (fun h => ?_)
    · rw [if_pos h]
      exact ih (i + 1) (by omega)
    · rw [if_neg h]
      refine Ep.ite (fun h2 => Ep.now ?_) (fun h2 => ?_)
      · rw [if_pos h2]
      · rw [if_neg h2]
        exact ih (i + 1) (by omega)
theorem implDebt (p : List Int) (q : Int) (hl : p.length ≤ 1048576) : Ep (fun k => impl_inDebt.f k p q) (· = debtF q p p.length 0) := by
  simp only [impl_inDebt.f]
  exact implDebt_l0 q p hl p.length 0 (by omega)
/-- t has been borrowed. -/
def Owed (n : Nat) (es : List E) (q : Int) (d : List Int) (t : Int → Int) : Prop := Legal n es q (dual es (rd d)) t
theorem Owed.bds {n : Nat} {es : List E} {q : Int} (g : Gr n es q) {d : List Int} (hd : d.length = n) (hb : Bd d 1000) {t : Int → Int} (h : Owed n es q d t) :
    (∀ v : Int, 0 ≤ v → v < n → 0 ≤ t v ∧ t v ≤ 36432) ∧ sumN n (fun i => t (i : Int)) ≤ 218592 ∧ t q = 0 ∧ ∀ w : Int, 0 ≤ w → w < n → -440000 ≤ rd d w + lap es t w ∧ rd d w + lap es t w ≤ 440000 := by
  have h1 := Legal.small g.n6 g.hes g.hj g.hq h (c := 1012) (by omega) (fun v h0 h1 h2 => by
    unfold dual
    have := hb v h0 (by omega)
    have := val_le es v
    have := g.hel
    omega)
  refine ⟨fun v h0 h2 => by have := h1.1 v h0 h2; omega, by omega, h.nonneg.2, fun w h0 h2 => ?_⟩
  have h3 := lap_bd g.hes g.hel (s := t) (L := 0) (S := 36432) (by omega) (fun v h0 h2 => by have := h1.1 v h0 h2; omega) w
  have := hb w h0 (by omega)
  omega
theorem Owed.zero {n : Nat} {es : List E} {q : Int} {d : List Int} : Owed n es q d (fun _ => 0) := Legal.zero
theorem Owed.step {n : Nat} {es : List E} {q : Int} {d : List Int} {t : Int → Int} (h : Owed n es q d t) {v : Int} (h0 : 0 ≤ v) (h1 : v < n) (hv : v ≠ q) (hd : rd d v + lap es t v < 0) : Owed n es q d (fun w => t w + one v 1 w) :=
  Legal.step h h0 h1 hv (by unfold dual; omega)
theorem specRed_l1 {n : Nat} {es : List E} {q : Int} (g : Gr n es q) {d : List Int} (hd : d.length = n) (hb : Bd d 1000) (t0 : Int → Int) {Q : List Int × List Int → Prop}
    (hk : ∀ (t : Int → Int) (s x : List Int), Owed n es q d t → Rep n s (fun w => - t w) → Rep n x (fun w => rd d w + lap es t w) → (sumN n (fun i => t0 (i : Int)) < sumN n (fun i => t (i : Int)) ∨ (t = t0 ∧ ∀ v : Int, 0 ≤ v → v < n → v ≠ q → 0 ≤ rd d v + lap es t v)) → Ep (fun k => spec_l05Reduce.l0 k d q s x (n : Int) es) Q) :
    ∀ (dd i : Nat) (t : Int → Int) (s x : List Int), i + dd = n → Owed n es q d t → Rep n s (fun w => - t w) → Rep n x (fun w => rd d w + lap es t w) → (sumN n (fun i => t0 (i : Int)) < sumN n (fun i => t (i : Int)) ∨ (t = t0 ∧ ∀ v : Int, 0 ≤ v → v < i → v ≠ q → 0 ≤ rd d v + lap es t v)) → Ep (fun k => spec_l05Reduce.l1 k d q s x (n : Int) (i : Int) (n : Int) es) Q := by
  have hn := g.n6
  intro dd
  induction dd with
  | zero =>
    intro i t s x hi ho hs hx hg
    obtain rfl : i = n := by omega
    refine Ep.up ?_
    simp only [spec_l05Reduce.l1]
    exact Ep.neg (by omega) (hk t s x ho hs hx hg)
  | succ dd ih =>
    intro i t s x hi ho hs hx hg
    have hbd := ho.bds g hd hb
    have hxl := hx.1
    have hsl := hs.1
    have hxi : rd x (i : Int) = rd d (i : Int) + lap es t (i : Int) := hx.2 i (by omega) (by omega)
    have hsi : rd s (i : Int) = - t (i : Int) := hs.2 i (by omega) (by omega)
    have hti := hbd.1 i (by omega) (by omega)
    refine Ep.up ?_
    simp only [spec_l05Reduce.l1]
    rw [wrap_succ (by omega)]
    refine Ep.pos (by omega) (Ep.ite (fun h => ?_) (fun h => Ep.pos (by omega) (Ep.pos (by omega) (Ep.ite (fun h2 => ?_) (fun h2 => ?_)))))
    · refine ih (i + 1) t s x (by omega) ho hs hx ?_
      rcases hg with hg | ⟨hg, hg2⟩
      · exact .inl hg
      · refine .inr ⟨hg, fun v v0 v1 v2 => ?_⟩
        by_cases e : v = i
        · exact absurd (e.trans h) v2
        · exact hg2 v v0 (by omega) v2
    · refine Ep.pos (by omega) (Ep.bind0 rfl ?_)
      rw [hsi, wrap_id (by omega) (by omega)]
      have ho' := ho.step (v := (i : Int)) (by omega) (by omega) h (by omega)
      have hbd' := ho'.bds g hd hb
      have hs' : Rep n (s.set (i : Int).toNat (- t (i : Int) - 1)) (fun w => - (t w + one (i : Int) 1 w)) := (hs.set (v := (i : Int)) (by omega) (by omega) _).congr fun w _ _ => by
        unfold one
        by_cases e : w = i
        · rw [if_pos e, if_pos e, e]; omega
        · rw [if_neg e, if_neg e]; omega
      refine Ep.bind (specFire n hn es g.hes g.hel d _ hd hs'.1 (B := 1000) (K := 100000) ⟨by omega, by omega⟩ hb (hs'.bd fun w w0 w1 => by have := hbd'.1 w w0 w1; omega) (by omega)) ?_
      rintro r ⟨hr, _⟩
      refine ih (i + 1) _ _ r (by omega) ho' hs' (((hr.congr g.hes hs'.2).rep hd).congr fun w w0 w1 => ?_) (.inl ?_)
      · rw [lap_neg es (fun w => t w + one (i : Int) 1 w)]; omega
      · rw [sum_grow (by omega) (by omega)]
        rcases hg with hg | ⟨hg, _⟩
        · omega
        · rw [hg]; omega
    · refine ih (i + 1) t s x (by omega) ho hs hx ?_
      rcases hg with hg | ⟨hg, hg2⟩
      · exact .inl hg
      · refine .inr ⟨hg, fun v v0 v1 v2 => ?_⟩
        by_cases e : v = i
        · rw [e]; omega
        · exact hg2 v v0 (by omega) v2
/-- Debts are paid: what is left to do. -/
theorem specRed_l0 {n : Nat} {es : List E} {q : Int} (g : Gr n es q) {d : List Int} (hd : d.length = n) (hb : Bd d 1000) {Q : List Int × List Int → Prop}
    (hk : ∀ (t : Int → Int) (s x : List Int), Owed n es q d t → Rep n s (fun w => - t w) → Rep n x (fun w => rd d w + lap es t w) → (∀ v : Int, 0 ≤ v → v < n → v ≠ q → 0 ≤ rd d v + lap es t v) → Ep (fun k => spec_l05Reduce.l2 k d q s x (n : Int) es) Q) :
    ∀ (k : Nat) (t : Int → Int) (s x : List Int), 218592 < sumN n (fun i => t (i : Int)) + k → Owed n es q d t → Rep n s (fun w => - t w) → Rep n x (fun w => rd d w + lap es t w) → Ep (fun f => spec_l05Reduce.l0 f d q s x (n : Int) es) Q := by
  have hn := g.n6
  intro k
  induction k with
  | zero =>
    intro t s x hs ho _ _
    have := ho.bds g hd hb
    omega
  | succ k ih =>
    intro t s x hm ho hs hx
    have hxl := hx.1
    refine Ep.up ?_
    simp only [spec_l05Reduce.l0]
    refine Ep.bind (specDebt x q (by omega)) ?_
    rintro _ rfl
    refine Ep.ite (fun h => ?_) (fun h => ?_)
    · have h' : 0 ≤ debtF q x x.length 0 := by simpa using h
      have hp := debt_pos (q := q) hxl (by omega)
      rw [hxl]
      rw [hxl] at hp
      generalize debtF q x n 0 = u at hp
      have hxu : rd x u = rd d u + lap es t u := hx.2 u hp.1 hp.2.1
      refine specRed_l1 g hd hb t (fun t' s' x' ho' hs' hx' hg => ih t' s' x' ?_ ho' hs' hx') n 0 t s x (by omega) ho hs hx (.inr ⟨rfl, fun v v0 v1 => by omega⟩)
      rcases hg with hg | ⟨rfl, hg⟩
      · omega
      · have := hg u hp.1 hp.2.1 hp.2.2.1
        omega
    · have h' : ¬ 0 ≤ debtF q x x.length 0 := by simpa using h
      refine hk t s x ho hs hx fun v v0 v1 v2 => ?_
      have := debt_neg (q := q) hxl (by omega) v v0 v1 v2
      have hxv : rd x v = rd d v + lap es t v := hx.2 v v0 v1
      omega
structure Sec (n : Nat) (es : List E) (q : Int) (d : List Int) (t u : Int → Int) : Prop where
  ow : Owed n es q d t
  sets : Sets n es q (fun v => rd d v + lap es t v) u
theorem Sec.bds {n : Nat} {es : List E} {q : Int} (g : Gr n es q) {d : List Int} (hd : d.length = n) (hb : Bd d 1000) {t u : Int → Int} (h : Sec n es q d t u) :
    (∀ v : Int, 0 ≤ v → v < n → 0 ≤ u v ∧ u v ≤ 15840000) ∧ sumN n (fun i => u (i : Int)) ≤ 95040000 ∧ (∀ v : Int, 0 ≤ v → v < n → -15880000 ≤ u v - t v ∧ u v - t v ≤ 15880000) ∧ ∀ w : Int, 0 ≤ w → w < n → -200000000 ≤ rd d w + lap es t w - lap es u w ∧ rd d w + lap es t w - lap es u w ≤ 200000000 := by
  have h1 := h.ow.bds g hd hb
  have h2 := h.sets.small g.n6 g.hes g.hj g.hq (c := 440000) (by omega) (fun v h0 h2 _ => (h1.2.2.2 v h0 h2).2)
  refine ⟨fun v h0 h3 => by have := h2.1 v h0 h3; omega, by omega, fun v h0 h3 => by have := h2.1 v h0 h3; have := h1.1 v h0 h3; omega, fun w h0 h3 => ?_⟩
  have h4 := lap_bd g.hes g.hel (s := u) (L := 0) (S := 15840000) (by omega) (fun v h0 h2' => by have := h2.1 v h0 h2'; omega) w
  have := h1.2.2.2 w h0 h3
  omega
theorem Sec.done {n : Nat} {es : List E} {q : Int} (g : Gr n es q) {d : List Int} {t u : Int → Int} (h : Sec n es q d t u) {s x : List Int} (hs : Rep n s (fun w => u w - t w)) (hx : Rep n x (fun w => rd d w + lap es t w - lap es u w)) {b : List Int} (hbu : Burn n es (rd x) q b) (hl : b.length = n) : Reduced n es q d (x, s) := by
  refine ⟨hx.1, hs.1, hbu.red g.hes g.hq hl (fun v v0 v1 v2 => ?_), ?_, fun v v0 v1 => ?_⟩
  · rw [hx.2 v v0 v1]
    exact h.sets.keeps v v0 v1 v2
  · have e : rd s q = u q - t q := hs.2 q g.hq.1 g.hq.2
    show rd s q = 0
    rw [e, h.sets.at_q, h.ow.nonneg.2]
    rfl
  · have e : rd x v = rd d v + lap es t v - lap es u v := hx.2 v v0 v1
    show rd x v = rd d v - lap es (rd s) v
    rw [e, lap_congr g.hes (t := fun w => u w - t w) hs.2, lap_sub]
    omega
/-- What is not reached by the fire, among the first i. -/
def unbTo (b : List Int) (i : Int) (v : Int) : Int := if v < i then unb b v else 0
theorem unbTo_succ {b : List Int} {i : Int} (hm : i ∉ b) (v : Int) : unbTo b (i + 1) v = unbTo b i v + one i 1 v := by
  unfold unbTo one
  by_cases c : v = i
  · rw [c, if_pos (by omega), if_neg (by omega), if_pos rfl, unb_not hm]; rfl
  · rw [if_neg c]
    by_cases c2 : v < i
    · rw [if_pos (by omega), if_pos c2]; omega
    · rw [if_neg (by omega), if_neg c2]; rfl
theorem unbTo_stay {b : List Int} {i : Int} (hm : i ∈ b) (v : Int) : unbTo b (i + 1) v = unbTo b i v := by
  unfold unbTo
  by_cases c : v = i
  · rw [c, if_pos (by omega), if_neg (by omega), unb_mem hm]
  · by_cases c2 : v < i
    · rw [if_pos (by omega), if_pos c2]
    · rw [if_neg (by omega), if_neg c2]
theorem unbTo_01 (b : List Int) (i v : Int) : 0 ≤ unbTo b i v ∧ unbTo b i v ≤ 1 := by
  unfold unbTo
  split
  · by_cases h : v ∈ b
    · rw [unb_mem h]; omega
    · rw [unb_not h]; omega
  · omega
theorem specRed_l3 {n : Nat} {es : List E} {q : Int} (g : Gr n es q) {d : List Int} (hd : d.length = n) (hb : Bd d 1000) {t u : Int → Int} (h : Sec n es q d t u) (b : List Int) (hbl : b.length ≤ 6) {Q : List Int × List Int → Prop}
    (hk : ∀ s x : List Int, Rep n s (fun w => u w + unb b w - t w) → Rep n x (fun w => rd d w + lap es t w - lap es (fun w => u w + unb b w) w) → Ep (fun k => spec_l05Reduce.l2 k d q s x (n : Int) es) Q) :
    ∀ (dd i : Nat) (s : List Int), i + dd = n → Rep n s (fun w => u w + unbTo b i w - t w) → Ep (fun k => spec_l05Reduce.l3 k d q s b (i : Int) (n : Int) es) Q := by
  have hn := g.n6
  have hbd := h.bds g hd hb
  intro dd
  induction dd with
  | zero =>
    intro i s hi hs
    obtain rfl : i = n := by omega
    have hs' : Rep i s (fun w => u w + unb b w - t w) := hs.congr fun w _ w1 => by unfold unbTo; rw [if_pos w1]
    refine Ep.up ?_
    simp only [spec_l05Reduce.l3]
    refine Ep.neg (by omega) ?_
    refine Ep.bind (specFire i hn es g.hes g.hel d s hd hs'.1 (B := 1000) (K := 20000000) ⟨by omega, by omega⟩ hb (hs.bd fun w w0 w1 => by
      have := hbd.2.2.1 w w0 w1
      have := unbTo_01 b i w
      omega) (by omega)) ?_
    rintro r ⟨hr, _⟩
    refine hk s r hs' (((hr.congr g.hes hs'.2).rep hd).congr fun w w0 w1 => ?_)
    have e : lap es (fun w => u w + unb b w - t w) w = lap es (fun w => u w + unb b w) w - lap es t w := lap_sub es (fun w => u w + unb b w) t w
    rw [e]
    omega
  | succ dd ih =>
    intro i s hi hs
    have hsl := hs.1
    have hsi : rd s (i : Int) = u i + unbTo b i i - t i := hs.2 i (by omega) (by omega)
    have h1 := hbd.2.2.1 i (by omega) (by omega)
    have h2 := unbTo_01 b i i
    refine Ep.up ?_
    simp only [spec_l05Reduce.l3]
    rw [wrap_succ (by omega)]
    refine Ep.pos (by omega) (Ep.bind (specHas b i (by omega)) ?_)
    rintro _ rfl
    refine Ep.ite (fun hm => ?_) (fun hm => Ep.pos (by omega) (Ep.pos (by omega) ?_))
    · have hm' : (i : Int) ∈ b := by simpa using hm
      refine ih (i + 1) s (by omega) (hs.congr fun w _ _ => ?_)
      rw [Int.natCast_succ, unbTo_stay hm']
    · have hm' : (i : Int) ∉ b := by simpa using hm
      rw [hsi, wrap_id (by omega) (by omega)]
      refine ih (i + 1) _ (by omega) ((hs.set (v := (i : Int)) (by omega) (by omega) _).congr fun w _ _ => ?_)
      rw [Int.natCast_succ, unbTo_succ hm']
      unfold one
      by_cases e : w = i
      · rw [if_pos e, if_pos e, e]; omega
      · rw [if_neg e, if_neg e]; omega
theorem specRed_l2 {n : Nat} {es : List E} {q : Int} (g : Gr n es q) {d : List Int} (hd : d.length = n) (hb : Bd d 1000) {t : Int → Int} : ∀ (k : Nat) (u : Int → Int) (s x : List Int), 95040000 < sumN n (fun i => u (i : Int)) + k → Sec n es q d t u → Rep n s (fun w => u w - t w) → Rep n x (fun w => rd d w + lap es t w - lap es u w) →
    Ep (fun f => spec_l05Reduce.l2 f d q s x (n : Int) es) (Reduced n es q d) := by
  have hn := g.n6
  intro k
  induction k with
  | zero =>
    intro u s x hm h _ _
    have := h.bds g hd hb
    omega
  | succ k ih =>
    intro u s x hm h hs hx
    have hxl := hx.1
    have hbo := burnF_ok (es := es) (d := rd x) g.hq
    have hlen := hbo.1.len g.hq
    refine Ep.up ?_
    simp only [spec_l05Reduce.l2]
    refine Ep.bind (specBurn g x hxl) ?_
    rintro b rfl
    generalize burnF n es (rd x) q = b at hbo hlen ⊢
    refine Ep.ite (fun h2 => Ep.now ?_) (fun h2 => ?_)
    · exact h.done g hs hx hbo.1 (by omega)
    · have hex := unburnt_some (n := n) (b := b) (by omega)
      have hst : Sec n es q d t (fun w => u w + unb b w) := ⟨h.ow, h.sets.step g.hes g.hq hx.2 hbo.1 hbo.2⟩
      refine specRed_l3 g hd hb h b (by omega) (fun s' x' hs' hx' => ih (fun w => u w + unb b w) s' x' ?_ hst hs' hx') n 0 s (by omega) (hs.congr fun w w0 _ => ?_)
      · have h9 : sumN n (fun i => u (i : Int)) + 1 ≤ sumN n (fun i => u (i : Int) + unb b (i : Int)) := sum_unb (u := u) hex
        omega
      · unfold unbTo
        rw [if_neg (by omega)]
        omega
theorem specReduce' {n : Nat} {es : List E} {q : Int} (g : Gr n es q) {d : List Int} (hd : d.length = n) (hb : Bd d 1000) : Ep (fun k => spec_l05Reduce.f k (n : Int) es d q) (Reduced n es q d) := by
  have hn := g.n6
  have hz : ∀ w, lap es (fun _ => 0) w = 0 := fun w => lap_const (c := 0) (fun _ _ => ⟨rfl, rfl⟩) w
  simp only [spec_l05Reduce.f]
  refine Ep.pos (by omega) (Ep.pos (by omega) (Ep.bind0 rfl (Ep.pos (by simp; omega) ?_)))
  refine specRed_l0 g hd hb (fun t s x ho hs hx hp => ?_) 218593 (fun _ => 0) _ d ?_ .zero (Rep.zero n) ((Rep.self hd).congr fun w _ _ => by rw [hz]; omega)
  · refine specRed_l2 g hd hb 95040001 (fun _ => 0) s x ?_ ⟨ho, Sets.zero hp⟩ (hs.congr fun w _ _ => by omega) (hx.congr fun w _ _ => by rw [hz]; omega)
    simp only [sumN_zero]; omega
  · simp only [sumN_zero]; omega
theorem reduceS_ok {n : Nat} {es : List E} {q : Int} (g : Gr n es q) {d : List Int} (hd : d.length = n) (hb : Bd d 1000) : Reduced n es q d (reduceS n es q d) := by
  obtain ⟨r, hr, _⟩ := specReduce' g hd hb
  rw [← hr.eq g.hes g.hq]
  exact hr
theorem implRed_l2 {n : Nat} {es : List E} {q : Int} (g : Gr n es q) {d : List Int} (hd : d.length = n) (hb : Bd d 1000) {t u : Int → Int} (h : Sec n es q d t u) (b : List Int) (hbl : b.length ≤ 6) {Q : List Int × List Int → Prop}
    (hk : ∀ s x : List Int, Rep n s (fun w => u w + unb b w - t w) → Rep n x (fun w => rd d w + lap es t w - lap es (fun w => u w + unb b w) w) → Ep (fun k => impl_reduce.l1 k q x s (n : Int) es) Q) :
    ∀ (dd i : Nat) (s x : List Int), i + dd = n → Rep n s (fun w => u w + unbTo b i w - t w) → Rep n x (fun w => rd d w + lap es t w - lap es (fun w => u w + unbTo b i w) w) → Ep (fun k => impl_reduce.l2 k q x s b (n : Int) (i : Int) (n : Int) es) Q := by
  have hn := g.n6
  have hbd := h.bds g hd hb
  intro dd
  induction dd with
  | zero =>
    intro i s x hi hs hx
    obtain rfl : i = n := by omega
    refine Ep.up ?_
    simp only [impl_reduce.l2]
    refine Ep.neg (by omega) (hk s x (hs.congr fun w _ w1 => by unfold unbTo; rw [if_pos w1]) (hx.congr fun w _ _ => ?_))
    rw [lap_congr g.hes (s := fun w => u w + unbTo b i w) (t := fun w => u w + unb b w) (fun v _ v1 => by unfold unbTo; rw [if_pos v1])]
  | succ dd ih =>
    intro i s x hi hs hx
    have hsl := hs.1
    have hxl := hx.1
    have hsi : rd s (i : Int) = u i + unbTo b i i - t i := hs.2 i (by omega) (by omega)
    have h1 := hbd.2.2.1 i (by omega) (by omega)
    have h2 := unbTo_01 b i i
    refine Ep.up ?_
    simp only [impl_reduce.l2]
    rw [wrap_succ (by omega)]
    refine Ep.pos (by omega) (Ep.bind (contains_ok b i (by omega)) ?_)
    rintro _ rfl
    refine Ep.ite (fun hm => ?_) (fun hm => ?_)
    · have hm' : (i : Int) ∈ b := by simpa using hm
      have e : unbTo b ((i : Int) + 1) = unbTo b i := funext fun w => unbTo_stay hm' w
      refine ih (i + 1) s x (by omega) (hs.congr fun w _ _ => ?_) (hx.congr fun w _ _ => ?_)
      · rw [Int.natCast_succ, e]
      · simp only [Int.natCast_succ, e]
    · have hm' : (i : Int) ∉ b := by simpa using hm
      have hbx : Bd x 1000000000 := hx.bd fun w w0 w1 => by
        have h3 := hbd.2.2.2 w w0 w1
        have h4 := lap_bd g.hes g.hel (s := unbTo b i) (L := 0) (S := 1) (by omega) (fun v _ _ => by have := unbTo_01 b i v; omega) w
        rw [lap_add]
        omega
      refine Ep.bind (implFire n es g.hes g.hel x i 1 hxl ⟨by omega, by omega⟩ (B := 1000000000) (K := 1) ⟨by omega, by omega⟩ hbx (by omega) (by omega)) ?_
      rintro r ⟨hr, _⟩
      refine Ep.pos (by omega) (Ep.pos (by omega) ?_)
      rw [hsi, wrap_id (by omega) (by omega)]
      refine ih (i + 1) _ r (by omega) ((hs.set (v := (i : Int)) (by omega) (by omega) _).congr fun w _ _ => ?_) ((hr.rep hxl).congr fun w w0 w1 => ?_)
      · rw [Int.natCast_succ, unbTo_succ hm']
        unfold one
        by_cases e : w = i
        · rw [if_pos e, if_pos e, e]; omega
        · rw [if_neg e, if_neg e]; omega
      · have hxw : rd x w = rd d w + lap es t w - lap es (fun w => u w + unbTo b i w) w := hx.2 w w0 w1
        have e : (fun w => u w + unbTo b ((i + 1 : Nat) : Int) w) = fun w => (fun w => u w + unbTo b i w) w + one (i : Int) 1 w := by
          funext w
          show u w + unbTo b ((i + 1 : Nat) : Int) w = u w + unbTo b i w + one (i : Int) 1 w
          rw [Int.natCast_succ, unbTo_succ hm']
          omega
        rw [e, lap_add, hxw]
        omega
theorem implRed_l1 {n : Nat} {es : List E} {q : Int} (g : Gr n es q) {d : List Int} (hd : d.length = n) (hb : Bd d 1000) {t : Int → Int} : ∀ (k : Nat) (u : Int → Int) (s x : List Int), 95040000 < sumN n (fun i => u (i : Int)) + k → Sec n es q d t u → Rep n s (fun w => u w - t w) → Rep n x (fun w => rd d w + lap es t w - lap es u w) →
    Ep (fun f => impl_reduce.l1 f q x s (n : Int) es) (Reduced n es q d) := by
  have hn := g.n6
  intro k
  induction k with
  | zero =>
    intro u s x hm h _ _
    have := h.bds g hd hb
    omega
  | succ k ih =>
    intro u s x hm h hs hx
    have hxl := hx.1
    have hsl := hs.1
    have hbo := burnF_ok (es := es) (d := rd x) g.hq
    have hlen := hbo.1.len g.hq
    refine Ep.up ?_
    simp only [impl_reduce.l1]
    refine Ep.bind (implBurn g x hxl) ?_
    rintro b rfl
    generalize burnF n es (rd x) q = b at hbo hlen ⊢
    refine Ep.ite (fun h2 => Ep.now ?_) (fun h2 => ?_)
    · exact h.done g hs hx hbo.1 (by omega)
    · have hex := unburnt_some (n := n) (b := b) (by omega)
      have hst : Sec n es q d t (fun w => u w + unb b w) := ⟨h.ow, h.sets.step g.hes g.hq hx.2 hbo.1 hbo.2⟩
      have e : ∀ w : Int, 0 ≤ w → u w + unbTo b ((0 : Nat) : Int) w = u w := fun w w0 => by unfold unbTo; rw [if_neg (by omega)]; omega
      rw [hsl]
      refine implRed_l2 g hd hb h b (by omega) (fun s' x' hs' hx' => ih (fun w => u w + unb b w) s' x' ?_ hst hs' hx') n 0 s x (by omega) (hs.congr fun w w0 _ => ?_) (hx.congr fun w w0 w1 => ?_)
      · have h9 : sumN n (fun i => u (i : Int)) + 1 ≤ sumN n (fun i => u (i : Int) + unb b (i : Int)) := sum_unb (u := u) hex
        omega
      · rw [e w w0]
      · rw [lap_congr g.hes (s := u) (t := fun w => u w + unbTo b ((0 : Nat) : Int) w) (fun v v0 _ => (e v v0).symm)]
theorem implRed_l0 {n : Nat} {es : List E} {q : Int} (g : Gr n es q) {d : List Int} (hd : d.length = n) (hb : Bd d 1000) : ∀ (k : Nat) (t : Int → Int) (s x : List Int), 218592 < sumN n (fun i => t (i : Int)) + k → Owed n es q d t → Rep n s (fun w => - t w) → Rep n x (fun w => rd d w + lap es t w) →
    Ep (fun f => impl_reduce.l0 f q x s (debtF q x x.length 0) (n : Int) es) (Reduced n es q d) := by
  have hn := g.n6
  have hel := g.hel
  have hz : ∀ w, lap es (fun _ => 0) w = 0 := fun w => lap_const (c := 0) (fun _ _ => ⟨rfl, rfl⟩) w
  intro k
  induction k with
  | zero =>
    intro t s x hm ho _ _
    have := ho.bds g hd hb
    omega
  | succ k ih =>
    intro t s x hm ho hs hx
    have hxl := hx.1
    have hsl := hs.1
    have hbd := ho.bds g hd hb
    refine Ep.up ?_
    simp only [impl_reduce.l0]
    refine Ep.ite (fun h => ?_) (fun h => ?_)
    · have hp := debt_pos (q := q) hxl (by omega)
      generalize debtF q x x.length 0 = v at hp ⊢
      obtain ⟨h0, h1, h2, h3⟩ := hp
      have hvp := val_pos g.hj g.hq ⟨h0, h1⟩ h2
      have hvl := val_le es v
      have hxv : rd x v = rd d v + lap es t v := hx.2 v h0 h1
      have hsv : rd s v = - t v := hs.2 v h0 h1
      have hxb := hbd.2.2.2 v h0 h1
      have htv := hbd.1 v h0 h1
      have hdv := Int.ediv_mul_le (val es v - 1 - rd x v) (b := val es v) (by omega)
      have hd0 : 1 ≤ (val es v - 1 - rd x v) / val es v := (Int.le_ediv_iff_mul_le hvp).2 (by omega)
      have hdm : (val es v - 1 - rd x v) / val es v ≤ val es v - 1 - rd x v := Int.ediv_le_self _ (by omega)
      have htd : Int.tdiv (val es v - 1 - rd x v) (val es v) = (val es v - 1 - rd x v) / val es v := Int.tdiv_eq_ediv_of_nonneg (by omega)
      have hbx : Bd x 1000000 := hx.bd fun w w0 w1 => by
        have := hbd.2.2.2 w w0 w1
        omega
      refine Ep.bind (implValence n es v (by omega)) ?_
      rintro _ rfl
      rw [valG_in ⟨h0, h1⟩]
      refine Ep.pos (by omega) (Ep.pos (by omega) (Ep.neg (by omega) ?_))
      rw [wrap_id (x := val es v - 1) (by omega) (by omega), wrap_id (x := val es v - 1 - rd x v) (by omega) (by omega), htd, wrap_id (x := (val es v - 1 - rd x v) / val es v) (by omega) (by omega)]
      generalize (val es v - 1 - rd x v) / val es v = m at hdv hd0 hdm ⊢
      obtain ⟨m, rfl⟩ := Int.eq_ofNat_of_zero_le (a := m) (by omega)
      rw [wrap_id (x := -(m : Int)) (by omega) (by omega)]
      refine Ep.bind (implFire n es g.hes g.hel x v (-(m : Int)) hxl ⟨h0, h1⟩ (B := 1000000) (K := 1000000) ⟨by omega, by omega⟩ hbx (by omega) (by omega)) ?_
      rintro r ⟨hr, _⟩
      have hr' := hr.rep hxl
      have hrl := hr'.1
      have ho' : Owed n es q d (fun w => t w + one v m w) := Legal.many g.hes ho h0 h1 h2 m (by unfold dual; omega)
      refine Ep.pos (by omega) ?_
      refine Ep.bind (implDebt r q (by omega)) ?_
      rintro _ rfl
      rw [hsv, wrap_id (x := - t v - (m : Int)) (by omega) (by omega)]
      refine ih (fun w => t w + one v m w) _ r ?_ ho' ((hs.set h0 h1 _).congr fun w _ _ => ?_) (hr'.congr fun w w0 w1 => ?_)
      · rw [sum_grow h0 h1]
        omega
      · unfold one
        by_cases e : w = v
        · rw [if_pos e, if_pos e, e]; omega
        · rw [if_neg e, if_neg e]; omega
      · have h5 : rd x w = rd d w + lap es t w := hx.2 w w0 w1
        have e : one v (-(m : Int)) = fun w => - one v m w := by
          funext w
          unfold one
          split <;> omega
        rw [h5, lap_add, e, lap_neg]
        omega
    · have hp := debt_neg (q := q) hxl (by omega)
      refine implRed_l1 g hd hb 95040001 (fun _ => 0) s x ?_ ⟨ho, Sets.zero fun v v0 v1 v2 => ?_⟩ (hs.congr fun w _ _ => by omega) (hx.congr fun w _ _ => by rw [hz]; omega)
      · simp only [sumN_zero]; omega
      · have h3 := hp v v0 v1 v2
        have h4 : rd x v = rd d v + lap es t v := hx.2 v v0 v1
        omega
theorem implReduce {n : Nat} {es : List E} {q : Int} (g : Gr n es q) {d : List Int} (hd : d.length = n) (hb : Bd d 1000) : Ep (fun k => impl_reduce.f k (n : Int) es d q) (· = reduceS n es q d) := by
  have hn := g.n6
  have hz : ∀ w, lap es (fun _ => 0) w = 0 := fun w => lap_const (c := 0) (fun _ _ => ⟨rfl, rfl⟩) w
  simp only [impl_reduce.f]
  refine Ep.bind0 (copy_eq d (by omega)) (Ep.pos (by omega) (Ep.pos (by omega) ?_))
  refine Ep.bind (implDebt d q (by omega)) ?_
  rintro _ rfl
  refine (implRed_l0 g hd hb 218593 (fun _ => 0) _ d ?_ .zero (Rep.zero n) ((Rep.self hd).congr fun w _ _ => by rw [hz]; omega)).mono fun r hr => hr.eq g.hes g.hq
  simp only [sumN_zero]; omega
end Go.Proofs.Ytgobnfeahffnaaa.Cf
end

section
namespace Go.Proofs.Ytgobnfeahffnaaa.P
open Go.RowKit Go.Proofs.YtgobnfeahffnaaaW.PrintWords Go.Proofs.YtgobnfeahffnaaaW.PrintLast Go.Proofs.YtgobnfeahffnaaaW.PrintMore
attribute [local go_sem] max2_int min2_int max_two min_two max_three min_three max_four min_four
set_option linter.unusedVariables false
set_option linter.unusedSimpArgs false
def impl_sumOf.l0 : Nat → Int → List Int → Int → Int → Option (Int)
 | 0, _, _, _, _ => none
 | k + 1, x3, x6, x7, x8 => if x8 < x7 then (if 0 ≤ x8 then (if x8 < (x6.length : Int) then (impl_sumOf.l0 k (wrap64 (x3 + (rd x6 x8))) x6 x7 (wrap64 (x8 + 1))) else (none)) else (none)) else (some x3)
def impl_sumOf.f (k : Nat) (l0 : List Int) : Option (Int) := impl_sumOf.l0 k 0 l0 (l0.length : Int) 0
theorem impl_sumOf.mono_l : ∀ k, (∀ y0 y1 y2 y3, LeO (impl_sumOf.l0 k y0 y1 y2 y3) (impl_sumOf.l0 (k + 1) y0 y1 y2 y3))
 | 0 => fun _ _ _ _ r h => by simp [impl_sumOf.l0] at h
 | k + 1 => by
  have ih0 := impl_sumOf.mono_l k
  ·intro y0 y1 y2 y3
   unfold impl_sumOf.l0
   exact zm0
theorem impl_sumOf.mono : ∀ a0 k, LeO (impl_sumOf.f k a0) (impl_sumOf.f (k + 1) a0) := by
 intro a0 k; have ih0 := impl_sumOf.mono_l k; unfold impl_sumOf.f; exact zm0
def spec_DegreeOf.l0 : Nat → Int → List Int → Int → Int → Option (Int)
 | 0, _, _, _, _ => none
 | k + 1, x3, x6, x7, x8 => if x8 < x7 then (if 0 ≤ x8 then (if x8 < (x6.length : Int) then (spec_DegreeOf.l0 k (wrap64 (x3 + (rd x6 x8))) x6 x7 (wrap64 (x8 + 1))) else (none)) else (none)) else (some x3)
def spec_DegreeOf.f (k : Nat) (l0 : List Int) : Option (Int) := spec_DegreeOf.l0 k 0 l0 (l0.length : Int) 0
theorem spec_DegreeOf.mono_l : ∀ k, (∀ y0 y1 y2 y3, LeO (spec_DegreeOf.l0 k y0 y1 y2 y3) (spec_DegreeOf.l0 (k + 1) y0 y1 y2 y3))
 | 0 => fun _ _ _ _ r h => by simp [spec_DegreeOf.l0] at h
 | k + 1 => by
  have ih0 := spec_DegreeOf.mono_l k
  ·intro y0 y1 y2 y3
   unfold spec_DegreeOf.l0
   exact zm0
theorem spec_DegreeOf.mono : ∀ a0 k, LeO (spec_DegreeOf.f k a0) (spec_DegreeOf.f (k + 1) a0) := by
 intro a0 k; have ih0 := spec_DegreeOf.mono_l k; unfold spec_DegreeOf.f; exact zm0
end Go.Proofs.Ytgobnfeahffnaaa.P
end

section
namespace Go.Proofs.Ytgobnfeahffnaaa.Cf
set_option linter.unusedVariables false
set_option linter.unusedSimpArgs false
open Go.RowKit Go.Proofs.YtgobnfeahffnaaaW.PrintWords Go.Proofs.Ytgobnfeahffnaaa.P
/-- The numbers are no greater than a thousand million. -/
def Mod (l : List Int) : Prop := ∀ x ∈ l, -1000000000 ≤ x ∧ x ≤ 1000000000
end Go.Proofs.Ytgobnfeahffnaaa.Cf
end

section
namespace Go.Proofs.Ytgobnfeahffnaaa.Cf
set_option linter.unusedVariables false
set_option linter.unusedSimpArgs false
open Go.RowKit Go.Proofs.YtgobnfeahffnaaaW.PrintWords
theorem sum_bd {n : Nat} (hn : n ≤ 6) {d : List Int} (hd : d.length = n) {B : Int} (hB : 0 ≤ B) (hb : Bd d B) : -(6 * B) ≤ d.sum ∧ d.sum ≤ 6 * B := by
  rw [sum_rd n d hd]
  have h1 := sumN_le_const (n := n) (f := fun i => rd d (i : Int)) (c := B) (fun i hi => (hb i (by omega) (by omega)).2)
  have h2 := sumN_le_const (n := n) (f := fun i => - rd d (i : Int)) (c := B) (fun i hi => by have := (hb i (by omega) (by omega)).1; omega)
  have h3 : sumN n (fun i => - rd d (i : Int)) + sumN n (fun i => rd d (i : Int)) = 0 := by
    rw [← sumN_add]
    have := sumN_zero n
    rw [← this]
    apply sumN_congr
    intro i _
    omega
  have h4 : (n : Int) * B ≤ 6 * B := Int.mul_le_mul_of_nonneg_right (by omega) hB
  omega
theorem reduceS_bd {n : Nat} {es : List E} {q : Int} (g : Gr n es q) {d : List Int} (hd : d.length = n) (hb : Bd d 1000) : (reduceS n es q d).1.length = n ∧ Bd (reduceS n es q d).1 10000 := by
  have h := reduceS_ok g hd hb
  have h1 := (h.bd g.n6 g.hes g.hel g.hq hd).2
  have h2 := sum_bd g.n6 hd (by omega) hb
  refine ⟨h.1, fun w w0 w1 => ?_⟩
  have h3 := h1 w w0 (by have := h.1; omega)
  by_cases e : w = q
  · have := h3.2 e; omega
  · have := h3.1 e; omega
end Go.Proofs.Ytgobnfeahffnaaa.Cf
end

section
namespace Go.Proofs.Ytgobnfeahffnaaa.P
open Go.RowKit Go.Proofs.YtgobnfeahffnaaaW.PrintWords Go.Proofs.YtgobnfeahffnaaaW.PrintLast Go.Proofs.YtgobnfeahffnaaaW.PrintMore
attribute [local go_sem] max2_int min2_int max_two min_two max_three min_three max_four min_four
set_option linter.unusedVariables false
set_option linter.unusedSimpArgs false
def spec_Stabilize.f (k : Nat) (a0_0 : Int) (l0_1 : List (S83)) (l1 : List Int) (a2 : Int) : Option (List Int × List Int × Bool) := (spec_PileOk.f k a0_0 l0_1 l1 a2).bind fun t102 => (if t102 = true then ((spec_l10Settle.f k a0_0 l0_1 l1 a2).bind fun bt103 => (some (bt103.1, bt103.2, true))) else (some (([] : List Int), ([] : List Int), false)))
theorem spec_Stabilize.mono : ∀ a0 a1 a2 a3 k, LeO (spec_Stabilize.f k a0 a1 a2 a3) (spec_Stabilize.f (k + 1) a0 a1 a2 a3) := by
 intro a0 a1 a2 a3 k; unfold spec_Stabilize.f; repeat' first | (with_reducible apply spec_PileOk.mono) | (with_reducible apply spec_l10Settle.mono) | (with_reducible exact LeO.refl _) | (with_reducible exact LeO.none _) | (with_reducible refine LeO.ite ?_ ?_) | (with_reducible refine LeO.bind ?_ (fun _ => ?_)) | apply spec_PileOk.mono | apply spec_l10Settle.mono | exact LeO.none _ | refine LeO.ite ?_ ?_ | refine LeO.bind ?_ (fun _ => ?_)
def impl_Stabilize.f (k : Nat) (a0_0 : Int) (l0_1 : List (S83)) (l1 : List Int) (a2 : Int) : Option (List Int × List Int × Bool) := (impl_PileOk.f k a0_0 l0_1 l1 a2).bind fun t102 => (if t102 = true then ((impl_stabilize.f k a0_0 l0_1 l1 a2).bind fun bt103 => (some (bt103.1, bt103.2, true))) else (some (([] : List Int), ([] : List Int), false)))
theorem impl_Stabilize.mono : ∀ a0 a1 a2 a3 k, LeO (impl_Stabilize.f k a0 a1 a2 a3) (impl_Stabilize.f (k + 1) a0 a1 a2 a3) := by
 intro a0 a1 a2 a3 k; unfold impl_Stabilize.f; repeat' first | (with_reducible apply impl_PileOk.mono) | (with_reducible apply impl_stabilize.mono) | (with_reducible exact LeO.refl _) | (with_reducible exact LeO.none _) | (with_reducible refine LeO.ite ?_ ?_) | (with_reducible refine LeO.bind ?_ (fun _ => ?_)) | apply impl_PileOk.mono | apply impl_stabilize.mono | exact LeO.none _ | refine LeO.ite ?_ ?_ | refine LeO.bind ?_ (fun _ => ?_)
def impl_AvalancheSize.f (k : Nat) (a0_0 : Int) (l0_1 : List (S83)) (l1 : List Int) (a2 : Int) : Option (Int) := (impl_Stabilize.f k a0_0 l0_1 l1 a2).bind fun bt102 => (if bt102.2.2 = true then ((impl_sumOf.f k bt102.2.1).bind fun t109 => (some t109)) else (some (-1)))
theorem impl_AvalancheSize.mono : ∀ a0 a1 a2 a3 k, LeO (impl_AvalancheSize.f k a0 a1 a2 a3) (impl_AvalancheSize.f (k + 1) a0 a1 a2 a3) := by
 intro a0 a1 a2 a3 k; unfold impl_AvalancheSize.f; repeat' first | (with_reducible apply impl_Stabilize.mono) | (with_reducible apply impl_sumOf.mono) | (with_reducible exact LeO.refl _) | (with_reducible exact LeO.none _) | (with_reducible refine LeO.ite ?_ ?_) | (with_reducible refine LeO.bind ?_ (fun _ => ?_)) | apply impl_Stabilize.mono | apply impl_sumOf.mono | exact LeO.none _ | refine LeO.ite ?_ ?_ | refine LeO.bind ?_ (fun _ => ?_)
end Go.Proofs.Ytgobnfeahffnaaa.P
end

section
namespace Go.Proofs.Ytgobnfeahffnaaa.Cf
set_option linter.unusedVariables false
set_option linter.unusedSimpArgs false
open Go.RowKit Go.Proofs.YtgobnfeahffnaaaW.PrintWords Go.Proofs.Ytgobnfeahffnaaa.P
theorem pOk_pre {n : Int} {es : List E} {p : List Int} {q : Int} (h : pOk n es p q = true) : ∃ m : Nat, n = m ∧ Gr m es q ∧ Pre m q p := by
  obtain ⟨⟨h1, h2, h3⟩, h4, h5, h6⟩ := pOk_iff.1 h
  obtain ⟨m, rfl⟩ := Int.eq_ofNat_of_zero_le (a := n) (by omega)
  have hl : p.length = m := by omega
  refine ⟨m, rfl, Gr.of h1 h4, ⟨hl, fun v v0 v1 _ => ?_, h6⟩⟩
  obtain ⟨i, rfl⟩ := Int.eq_ofNat_of_zero_le v0
  have hi : i < p.length := by omega
  have := h3 _ (List.getElem_mem hi)
  have := h5 _ (List.getElem_mem hi)
  rw [rd_get hi]
  omega
end Go.Proofs.Ytgobnfeahffnaaa.Cf
end

section
namespace Go.Proofs.Ytgobnfeahffnaaa.P
open Go.RowKit Go.Proofs.YtgobnfeahffnaaaW.PrintWords Go.Proofs.YtgobnfeahffnaaaW.PrintLast Go.Proofs.YtgobnfeahffnaaaW.PrintMore
attribute [local go_sem] max2_int min2_int max_two min_two max_three min_three max_four min_four
set_option linter.unusedVariables false
set_option linter.unusedSimpArgs false
mutual
def spec_FullPile.j0 : Nat → Int → Bool → Int → List (S83) → Option (List Int)
 | 0, _, _, _, _ => none
 | k + 1, x1, x17, x102000, x102001 => if x17 = true then (some ([] : List Int)) else (spec_FullPile.l0 k x1 (([] : List Int)) 0 x102000 x102001)
def spec_FullPile.l0 : Nat → Int → List Int → Int → Int → List (S83) → Option (List Int)
 | 0, _, _, _, _, _ => none
 | k + 1, x1, x5, x6, x102000, x102001 => if x6 < x102000 then (if x6 = x1 then (if x5.length < 17592186044416 then (spec_FullPile.l0 k x1 (x5 ++ [0]) (wrap64 (x6 + 1)) x102000 x102001) else (none)) else ((spec_Valence.f k x102000 x102001 x6).bind fun t110 => (if x5.length < 17592186044416 then (spec_FullPile.l0 k x1 (x5 ++ [wrap64 (t110 - 1)]) (wrap64 (x6 + 1)) x102000 x102001) else (none)))) else (some x5)
end
def spec_FullPile.f (k : Nat) (a0_0 : Int) (l0_1 : List (S83)) (a1 : Int) : Option (List Int) := (spec_GraphOk.f k a0_0 l0_1).bind fun t102 => (if t102 = true then ((spec_l01In.f a1 0 (wrap64 (a0_0 - 1))).bind fun t103 => (spec_FullPile.j0 k a1 (!t103) a0_0 l0_1)) else (spec_FullPile.j0 k a1 true a0_0 l0_1))
theorem spec_FullPile.mono_l : ∀ k, (∀ y0 y1 y2 y3, LeO (spec_FullPile.j0 k y0 y1 y2 y3) (spec_FullPile.j0 (k + 1) y0 y1 y2 y3)) ∧ (∀ y0 y1 y2 y3 y4, LeO (spec_FullPile.l0 k y0 y1 y2 y3 y4) (spec_FullPile.l0 (k + 1) y0 y1 y2 y3 y4))
 | 0 => ⟨fun _ _ _ _ r h => by simp [spec_FullPile.j0] at h, fun _ _ _ _ _ r h => by simp [spec_FullPile.l0] at h⟩
 | k + 1 => by
  obtain ⟨ih0, ih1⟩ := spec_FullPile.mono_l k
  refine ⟨?_, ?_⟩
  ·intro y0 y1 y2 y3
   unfold spec_FullPile.j0
   exact zm11
  ·intro y0 y1 y2 y3 y4
   unfold spec_FullPile.l0
   exact zm11
theorem spec_FullPile.mono : ∀ a0 a1 a2 k, LeO (spec_FullPile.f k a0 a1 a2) (spec_FullPile.f (k + 1) a0 a1 a2) := by
 intro a0 a1 a2 k; obtain ⟨ih0, ih1⟩ := spec_FullPile.mono_l k; unfold spec_FullPile.f; exact zm11
end Go.Proofs.Ytgobnfeahffnaaa.P
end

section
namespace Go.Proofs.Ytgobnfeahffnaaa.Cf
set_option linter.unusedVariables false
set_option linter.unusedSimpArgs false
open Go.RowKit Go.Proofs.YtgobnfeahffnaaaW.PrintWords Go.Proofs.Ytgobnfeahffnaaa.P
/-- The valence minus 1, 0 at q. -/
def fullAt (n : Int) (es : List E) (q : Int) (i : Nat) : Int := if (i : Int) = q then 0 else valG n es i - 1
def fullL (n : Int) (es : List E) (q : Int) : List Int := (List.range n.toNat).map (fullAt n es q)
/-- FullPile. -/
def fullP (n : Int) (es : List E) (q : Int) : List Int := if gOk n es = true ∧ 0 ≤ q ∧ q < n then fullL n es q else []
theorem valG_bd {n : Int} {es : List E} {v : Int} : 0 ≤ valG n es v ∧ valG n es v ≤ es.length := by
  unfold valG
  split
  · exact ⟨val_nonneg es v, val_le es v⟩
  · omega
theorem implFull_l0 (n : Nat) (es : List E) (q : Int) (hn : n ≤ 6) (hel : es.length ≤ 12) : ∀ (d i : Nat) (x : List Int), i + d = n → x.length = n → (∀ j, j < i → x[j]? = (fullL n es q)[j]?) → (∀ j, i ≤ j → j < n → x[j]? = some 0) → Ep (fun k => impl_FullPile.l0 k q x (n : Int) (i : Int) (n : Int) es) (· = fullL n es q) := by
  intro d
  have hL : (fullL n es q).length = n := by simp [fullL]
  have hget : ∀ j, j < n → (fullL n es q)[j]? = some (fullAt n es q j) := fun j hj => by simp [fullL, hj]
  induction d with
  | zero =>
    intro i x hi hx hd _
    refine Ep.up ?_
    simp only [impl_FullPile.l0]
    refine Ep.neg (by omega) (Ep.now ?_)
    apply List.ext_getElem?
    intro j
    by_cases hj : j < i
    · exact hd j hj
    · rw [List.getElem?_eq_none (by omega), List.getElem?_eq_none (by omega)]
  | succ d ih =>
    intro i x hi hx hd hz
    refine Ep.up ?_
    simp only [impl_FullPile.l0]
    rw [wrap_succ (by omega)]
    refine Ep.pos (by omega) (Ep.ite (fun h => ?_) (fun h => ?_))
    · refine ih (i + 1) x (by omega) hx ?_ (fun j hj => hz j (by omega))
      intro j hj
      by_cases e : j = i
      · subst e
        rw [hz j (Nat.le_refl _) (by omega), hget j (by omega)]
        unfold fullAt
        rw [if_pos h]
      · exact hd j (by omega)
    · refine Ep.bind (implValence n es i (by omega)) ?_
      rintro _ rfl
      have := valG_bd (n := n) (es := es) (v := i)
      rw [wrap_id (x := valG (n : Int) es i - 1) (by omega) (by omega), Int.toNat_natCast]
      refine Ep.pos (by omega) (Ep.pos (by omega) (ih (i + 1) _ (by omega) (by simpa using hx) ?_ ?_))
      · intro j hj
        by_cases e : i = j
        · subst e
          rw [List.getElem?_set_self (by omega), hget i (by omega)]
          unfold fullAt
          rw [if_neg h]
        · rw [List.getElem?_set_ne e]
          exact hd j (by omega)
      · intro j hj hjn
        rw [List.getElem?_set_ne (by omega)]
        exact hz j (by omega) hjn
theorem implFull (n : Int) (es : List E) (q : Int) (hn : Wf .i64 n) : Ep (fun k => impl_FullPile.f k n es q) (· = fullP n es q) := by
  simp only [impl_FullPile.f]
  refine Ep.bind0 (isVertex_eq n es q hn) ?_
  refine Ep.ite (fun h => ?_) (fun h => Ep.now ?_)
  · have h' : gOk n es = true ∧ 0 ≤ q ∧ q < n := by simpa using h
    have hG1 := (gOk_true h'.1).1
    unfold EsOk at hG1
    unfold fullP
    rw [if_pos h']
    obtain ⟨m, rfl⟩ := Int.eq_ofNat_of_zero_le (a := n) (by omega)
    refine Ep.pos (by omega) (Ep.pos (by simp; omega) (Ep.bind0 rfl ?_))
    have := implFull_l0 m es q (by omega) hG1.2.2.1 m 0 (List.replicate m 0) (by omega) (by simp) (fun j hj => by omega) (fun j _ hj => by simp [hj])
    simpa using this
  · unfold fullP
    rw [if_neg (fun x => h (by rw [x.1]; simpa using x.2))]
end Go.Proofs.Ytgobnfeahffnaaa.Cf
end

section
namespace Go.Proofs.Ytgobnfeahffnaaa.P
open Go.RowKit Go.Proofs.YtgobnfeahffnaaaW.PrintWords Go.Proofs.YtgobnfeahffnaaaW.PrintLast Go.Proofs.YtgobnfeahffnaaaW.PrintMore
attribute [local go_sem] max2_int min2_int max_two min_two max_three min_three max_four min_four
set_option linter.unusedVariables false
set_option linter.unusedSimpArgs false
def spec_AddDivisors.l0 : Nat → List Int → List Int → List Int → Int → Int → Option (List Int × Bool)
 | 0, _, _, _, _, _ => none
 | k + 1, x1, x6, x15, x16, x17 => if x17 < x16 then (if 0 ≤ x17 then (if x17 < (x15.length : Int) then (if x17 < (x1.length : Int) then (if x6.length < 17592186044416 then (spec_AddDivisors.l0 k x1 (x6 ++ [wrap64 ((rd x15 x17) + (rd x1 x17))]) x15 x16 (wrap64 (x17 + 1))) else (none)) else (none)) else (none)) else (none)) else (some (x6, true))
def spec_AddDivisors.f (k : Nat) (l0 : List Int) (l1 : List Int) : Option (List Int × Bool) := if (l0.length : Int) = (l1.length : Int) then (spec_AddDivisors.l0 k l1 (([] : List Int)) l0 (l0.length : Int) 0) else (some (([] : List Int), false))
theorem spec_AddDivisors.mono_l : ∀ k, (∀ y0 y1 y2 y3 y4, LeO (spec_AddDivisors.l0 k y0 y1 y2 y3 y4) (spec_AddDivisors.l0 (k + 1) y0 y1 y2 y3 y4))
 | 0 => fun _ _ _ _ _ r h => by simp [spec_AddDivisors.l0] at h
 | k + 1 => by
  have ih0 := spec_AddDivisors.mono_l k
  ·intro y0 y1 y2 y3 y4
   unfold spec_AddDivisors.l0
   exact zm0
theorem spec_AddDivisors.mono : ∀ a0 a1 k, LeO (spec_AddDivisors.f k a0 a1) (spec_AddDivisors.f (k + 1) a0 a1) := by
 intro a0 a1 k; have ih0 := spec_AddDivisors.mono_l k; unfold spec_AddDivisors.f; exact zm0
def spec_l07Minus.l0 : Nat → List Int → List Int → List Int → Int → Int → Option (List Int)
 | 0, _, _, _, _, _ => none
 | k + 1, x1, x5, x9, x10, x11 => if x11 < x10 then (if 0 ≤ x11 then (if x11 < (x9.length : Int) then (if x11 < (x1.length : Int) then (if x5.length < 17592186044416 then (spec_l07Minus.l0 k x1 (x5 ++ [wrap64 ((rd x9 x11) - (rd x1 x11))]) x9 x10 (wrap64 (x11 + 1))) else (none)) else (none)) else (none)) else (none)) else (some x5)
def spec_l07Minus.f (k : Nat) (l0 : List Int) (l1 : List Int) : Option (List Int) := spec_l07Minus.l0 k l1 (([] : List Int)) l0 (l0.length : Int) 0
theorem spec_l07Minus.mono_l : ∀ k, (∀ y0 y1 y2 y3 y4, LeO (spec_l07Minus.l0 k y0 y1 y2 y3 y4) (spec_l07Minus.l0 (k + 1) y0 y1 y2 y3 y4))
 | 0 => fun _ _ _ _ _ r h => by simp [spec_l07Minus.l0] at h
 | k + 1 => by
  have ih0 := spec_l07Minus.mono_l k
  ·intro y0 y1 y2 y3 y4
   unfold spec_l07Minus.l0
   exact zm0
theorem spec_l07Minus.mono : ∀ a0 a1 k, LeO (spec_l07Minus.f k a0 a1) (spec_l07Minus.f (k + 1) a0 a1) := by
 intro a0 a1 k; have ih0 := spec_l07Minus.mono_l k; unfold spec_l07Minus.f; exact zm0
end Go.Proofs.Ytgobnfeahffnaaa.P
end

section
namespace Go.Proofs.Ytgobnfeahffnaaa.Cf
set_option linter.unusedVariables false
set_option linter.unusedSimpArgs false
open Go.RowKit Go.Proofs.YtgobnfeahffnaaaW.PrintWords Go.Proofs.Ytgobnfeahffnaaa.P
theorem repL_congr {n : Nat} {f g : Int → Int} (h : ∀ w : Int, 0 ≤ w → w < n → f w = g w) : repL n f = repL n g := ((repL_rep n f).congr h).eq
def plusL (a b : List Int) : List Int := repL a.length fun w => rd a w + rd b w
def minL (a b : List Int) : List Int := repL a.length fun w => rd a w - rd b w
def negL (a : List Int) : List Int := repL a.length fun w => - rd a w
theorem plus_neg {a b : List Int} (h : a.length = b.length) : plusL a (negL b) = minL a b := by
  unfold plusL minL
  refine repL_congr fun w h0 h1 => ?_
  have : rd (negL b) w = - rd b w := (repL_rep b.length _).2 w h0 (by omega)
  rw [this]
  omega
theorem implPlus_l0 (a b : List Int) (n : Nat) (hn : n ≤ 1048576) (ha : a.length = n) (hb : b.length = n) (ba : Bd a 1000000000) (bb : Bd b 1000000000) : ∀ (d i : Nat) (x : List Int), i + d = n → Rep n x (fun w => if w < i then rd a w + rd b w else rd a w) → Ep (fun k => impl_plus.l0 k b x (n : Int) (i : Int)) (· = plusL a b) := by
  intro d
  induction d with
  | zero =>
    intro i x hi hx
    obtain rfl : i = n := by omega
    refine Ep.up ?_
    simp only [impl_plus.l0]
    refine Ep.neg (by omega) (Ep.now ?_)
    unfold plusL
    rw [ha]
    exact (hx.congr fun w _ w1 => by rw [if_pos w1]).eq
  | succ d ih =>
    intro i x hi hx
    have hxl := hx.1
    have h1 := ba i (by omega) (by omega)
    have h2 := bb i (by omega) (by omega)
    have hxi : rd x (i : Int) = rd a (i : Int) := by
      have h9 := hx.2 i (by omega) (by omega)
      simp only [if_neg (show ¬ (i : Int) < i by omega)] at h9
      exact h9
    refine Ep.up ?_
    simp only [impl_plus.l0]
    refine Ep.pos (by omega) (Ep.pos (by omega) (Ep.pos (by omega) (Ep.pos (by omega) ?_)))
    rw [wrap_succ (by omega), hxi, wrap_id (by omega) (by omega)]
    refine ih (i + 1) _ (by omega) ((hx.set (v := (i : Int)) (by omega) (by omega) _).congr fun w _ _ => ?_)
    by_cases e : w = i
    · rw [if_pos e, if_pos (by omega), e]
    · rw [if_neg e]
      by_cases e2 : w < i
      · rw [if_pos e2, if_pos (by omega)]
      · rw [if_neg e2, if_neg (by omega)]
theorem implPlus (a b : List Int) (hl : a.length ≤ 1048576) (hab : a.length = b.length) (ba : Bd a 1000000000) (bb : Bd b 1000000000) : Ep (fun k => impl_plus.f k a b) (· = plusL a b) := by
  simp only [impl_plus.f]
  refine Ep.bind0 (copy_eq a hl) ?_
  exact implPlus_l0 a b a.length hl rfl hab.symm ba bb a.length 0 a (by omega) ((Rep.self rfl).congr fun w w0 _ => by rw [if_neg (by omega)])
theorem implNeg_l0 (a : List Int) (n : Nat) (hn : n ≤ 1048576) (ha : a.length = n) (ba : Bd a 1000000000) : ∀ (d i : Nat) (x : List Int), i + d = n → Rep n x (fun w => if w < i then - rd a w else rd a w) → Ep (fun k => impl_NegateDivisor.l0 k x (n : Int) (i : Int)) (· = negL a) := by
  intro d
  induction d with
  | zero =>
    intro i x hi hx
    obtain rfl : i = n := by omega
    refine Ep.up ?_
    simp only [impl_NegateDivisor.l0]
    refine Ep.neg (by omega) (Ep.now ?_)
    unfold negL
    rw [ha]
    exact (hx.congr fun w _ w1 => by rw [if_pos w1]).eq
  | succ d ih =>
    intro i x hi hx
    have hxl := hx.1
    have h1 := ba i (by omega) (by omega)
    have hxi : rd x (i : Int) = rd a (i : Int) := by
      have h9 := hx.2 i (by omega) (by omega)
      simp only [if_neg (show ¬ (i : Int) < i by omega)] at h9
      exact h9
    refine Ep.up ?_
    simp only [impl_NegateDivisor.l0]
    refine Ep.pos (by omega) (Ep.pos (by omega) (Ep.pos (by omega) ?_))
    rw [wrap_succ (by omega), hxi, wrap_id (by omega) (by omega)]
    refine ih (i + 1) _ (by omega) ((hx.set (v := (i : Int)) (by omega) (by omega) _).congr fun w _ _ => ?_)
    by_cases e : w = i
    · rw [if_pos e, if_pos (by omega), e]
    · rw [if_neg e]
      by_cases e2 : w < i
      · rw [if_pos e2, if_pos (by omega)]
      · rw [if_neg e2, if_neg (by omega)]
theorem implNeg (a : List Int) (hl : a.length ≤ 1048576) (ba : Bd a 1000000000) : Ep (fun k => impl_NegateDivisor.f k a) (· = negL a) := by
  simp only [impl_NegateDivisor.f]
  refine Ep.bind0 (copy_eq a hl) ?_
  exact implNeg_l0 a a.length hl rfl ba a.length 0 a (by omega) ((Rep.self rfl).congr fun w w0 _ => by rw [if_neg (by omega)])
theorem negL_len (a : List Int) : (negL a).length = a.length := by simp [negL, repL_len]
theorem minL_len (a b : List Int) : (minL a b).length = a.length := by simp [minL, repL_len]
theorem plusL_len (a b : List Int) : (plusL a b).length = a.length := by simp [plusL, repL_len]
theorem negL_bd {a : List Int} {B : Int} (h : Bd a B) : Bd (negL a) B := (repL_rep a.length _).bd fun w h0 h1 => by have := h w h0 h1; omega
theorem plusL_bd {a b : List Int} {A B : Int} (hab : a.length = b.length) (ha : Bd a A) (hb : Bd b B) : Bd (plusL a b) (A + B) := (repL_rep a.length _).bd fun w h0 h1 => by have := ha w h0 h1; have := hb w h0 (by omega); omega
theorem minL_bd {a b : List Int} {A B : Int} (hab : a.length = b.length) (ha : Bd a A) (hb : Bd b B) : Bd (minL a b) (A + B) := (repL_rep a.length _).bd fun w h0 h1 => by have := ha w h0 h1; have := hb w h0 (by omega); omega
theorem equal_l0 (x0 x1 : List Int) (h : x0.length ≤ 1048576) (hl : x0.length = x1.length) : ∀ (d i : Nat), i + d = x0.length → (∀ j, j < i → x0[j]? = x1[j]?) → Ep (fun k => slices_Equal_int_int.l0 k x0 x1 (x0.length : Int) (i : Int)) (· = decide (x0 = x1)) := by
  intro d
  induction d with
  | zero =>
    intro i hi hx
    refine Ep.up ?_
    simp only [slices_Equal_int_int.l0]
    refine Ep.neg (by omega) (Ep.now ?_)
    have : x0 = x1 := by
      apply List.ext_getElem?
      intro j
      by_cases hj : j < i
      · exact hx j hj
      · rw [List.getElem?_eq_none (by omega), List.getElem?_eq_none (by omega)]
    simp [this]
  | succ d ih =>
    intro i hi hx
    refine Ep.up ?_
    simp only [slices_Equal_int_int.l0]
    refine Ep.pos (by omega) (Ep.pos (by omega) (Ep.pos (by omega) (Ep.pos (by omega) ?_)))
    rw [rd_get (show i < x0.length by omega), rd_get (show i < x1.length by omega), wrap_succ (by omega)]
    refine Ep.ite (fun e => ?_) (fun e => Ep.now ?_)
    · refine ih (i + 1) (by omega) ?_
      intro j hj
      by_cases ej : j = i
      · subst ej
        rw [List.getElem?_eq_getElem (by omega), List.getElem?_eq_getElem (by omega), e]
      · exact hx j (by omega)
    · have : x0 ≠ x1 := by
        rintro rfl
        exact e rfl
      simp [this]
theorem implSame (x0 x1 : List Int) (h : x0.length ≤ 1048576) : Ep (fun k => impl_SameDivisor.f k x0 x1) (· = decide (x0 = x1)) := by
  simp only [impl_SameDivisor.f, slices_Equal_int_int.f]
  refine Ep.bind (P := (· = decide (x0 = x1))) ?_ ?_
  · refine Ep.ite (fun e => equal_l0 x0 x1 h (by omega) x0.length 0 (by omega) (fun j hj => by omega)) (fun e => Ep.now ?_)
    have : x0 ≠ x1 := by
      rintro rfl
      exact e rfl
    simp [this]
  · rintro _ rfl
    exact Ep.now rfl
end Go.Proofs.Ytgobnfeahffnaaa.Cf
end

section
namespace Go.Proofs.Ytgobnfeahffnaaa.P
open Go.RowKit Go.Proofs.YtgobnfeahffnaaaW.PrintWords Go.Proofs.YtgobnfeahffnaaaW.PrintLast Go.Proofs.YtgobnfeahffnaaaW.PrintMore
attribute [local go_sem] max2_int min2_int max_two min_two max_three min_three max_four min_four
set_option linter.unusedVariables false
set_option linter.unusedSimpArgs false
def spec_SumOfPiles.j0 : Nat → List Int → List Int → Int → Bool → Int → List (S83) → Option (List Int × Bool)
 | 0, _, _, _, _, _, _ => none
 | k + 1, x1, x2, x3, x26, x102000, x102001 => if x26 = true then (some (([] : List Int), false)) else ((spec_AddDivisors.f k x1 x2).bind fun bt104 => ((spec_Stabilize.f k x102000 x102001 bt104.1 x3).bind fun bt108 => (some (bt108.1, bt108.2.2))))
def spec_SumOfPiles.f (k : Nat) (a0_0 : Int) (l0_1 : List (S83)) (l1 : List Int) (l2 : List Int) (a3 : Int) : Option (List Int × Bool) := (spec_PileOk.f k a0_0 l0_1 l1 a3).bind fun t102 => (if t102 = true then ((spec_PileOk.f k a0_0 l0_1 l2 a3).bind fun t103 => (spec_SumOfPiles.j0 k l1 l2 a3 (!t103) a0_0 l0_1)) else (spec_SumOfPiles.j0 k l1 l2 a3 true a0_0 l0_1))
theorem spec_SumOfPiles.mono_l : ∀ k, (∀ y0 y1 y2 y3 y4 y5, LeO (spec_SumOfPiles.j0 k y0 y1 y2 y3 y4 y5) (spec_SumOfPiles.j0 (k + 1) y0 y1 y2 y3 y4 y5))
 | 0 => fun _ _ _ _ _ _ r h => by simp [spec_SumOfPiles.j0] at h
 | k + 1 => by
  have ih0 := spec_SumOfPiles.mono_l k
  ·intro y0 y1 y2 y3 y4 y5
   unfold spec_SumOfPiles.j0
   exact zm14
theorem spec_SumOfPiles.mono : ∀ a0 a1 a2 a3 a4 k, LeO (spec_SumOfPiles.f k a0 a1 a2 a3 a4) (spec_SumOfPiles.f (k + 1) a0 a1 a2 a3 a4) := by
 intro a0 a1 a2 a3 a4 k; have ih0 := spec_SumOfPiles.mono_l k; unfold spec_SumOfPiles.f; exact zm14
end Go.Proofs.Ytgobnfeahffnaaa.P
end

section
namespace Go.Proofs.Ytgobnfeahffnaaa.Cf
set_option linter.unusedVariables false
set_option linter.unusedSimpArgs false
open Go.RowKit Go.Proofs.YtgobnfeahffnaaaW.PrintWords Go.Proofs.Ytgobnfeahffnaaa.P
theorem pOk_all {n : Int} {es : List E} {p : List Int} {q : Int} (h : pOk n es p q = true) : ∃ m : Nat, n = m ∧ Gr m es q ∧ Pre m q p ∧ Bd p 60 ∧ Mod p := by
  obtain ⟨m, rfl, g, hp⟩ := pOk_pre h
  obtain ⟨⟨_, _, h3⟩, _⟩ := pOk_iff.1 h
  exact ⟨m, rfl, g, hp, Bd.of60 h3, fun x hx => by have := h3 x hx; omega⟩
theorem sOk_pOk {n : Int} {es : List E} {p : List Int} {q : Int} (h : sOk n es p q = true) : pOk n es p q = true := by
  unfold sOk at h
  rw [Bool.and_eq_true] at h
  exact h.1
/-- Each vertex but q toppled once. -/
def onesF (q : Int) (c : List Int) : Nat → Nat → Bool
  | 0, _ => true
  | d + 1, i => if (i : Int) = q then onesF q c d (i + 1) else if rd c i = 1 then onesF q c d (i + 1) else false
/-- The sink is lit. -/
def litL (n : Nat) (es : List E) (q : Int) (p : List Int) : List Int := repL n fun w => rd p w + mult es q w
theorem litL_pre {n : Nat} {es : List E} {q : Int} (g : Gr n es q) {p : List Int} (hp : Pre n q p) (hb : Bd p 60) : Pre n q (litL n es q p) where
  len := repL_len _ _
  bd := fun v v0 v1 v2 => by
    have e : rd (litL n es q p) v = rd p v + mult es q v := (repL_rep n _).2 v v0 v1
    have h0 := mult_nonneg es q v
    have h1 := mult_le es q v
    have h2 := hp.bd v v0 v1 v2
    have h3 := hb v v0 (by have := hp.len; omega)
    have := g.hel
    omega
  at_q := by
    have e : rd (litL n es q p) q = rd p q + mult es q q := (repL_rep n _).2 q g.hq.1 g.hq.2
    rw [e, hp.at_q, mult_self g.hes]
    rfl
noncomputable def isR (n : Nat) (es : List E) (q : Int) (p : List Int) : Bool := if onesF q (settleS n es q (litL n es q p)).2 (settleS n es q (litL n es q p)).2.length 0 = true then decide ((settleS n es q (litL n es q p)).1 = p) else false
noncomputable def recB (n : Int) (es : List E) (p : List Int) (q : Int) : Bool := sOk n es p q && isR n.toNat es q p
theorem implRec_l0 (q : Int) (p x c : List Int) (hx : x.length ≤ 1048576) (hc : c.length ≤ 1048576) : ∀ (d i : Nat), i + d = c.length → Ep (fun k => impl_IsRecurrent.l0 k p q x c (c.length : Int) (i : Int)) (· = if onesF q c d i = true then decide (x = p) else false) := by
  intro d
  induction d with
  | zero =>
    intro i hi
    refine Ep.up ?_
    simp only [impl_IsRecurrent.l0]
    refine Ep.neg (by omega) (Ep.bind (implSame x p hx) ?_)
    rintro _ rfl
    exact Ep.now rfl
  | succ d ih =>
    intro i hi
    refine Ep.up ?_
    simp only [impl_IsRecurrent.l0]
    rw [wrap_succ (by omega)]
    unfold onesF
    refine Ep.pos (by omega) (Ep.pos (by omega) (Ep.pos (by omega) (Ep.ite (fun h => ?_) (fun h => Ep.ite (fun h2 => ?_) (fun h2 => Ep.now ?_)))))
    · rw [if_pos h]
      exact ih (i + 1) (by omega)
    · rw [if_neg h, if_pos h2]
      exact ih (i + 1) (by omega)
    · rw [if_neg h, if_neg h2]
      rfl
theorem implRecur (n : Int) (es : List E) (p : List Int) (q : Int) (hel : es.length ≤ 1048576) (hl : p.length ≤ 1048576) : Ep (fun k => impl_IsRecurrent.f k n es p q) (· = recB n es p q) := by
  simp only [impl_IsRecurrent.f, recB]
  refine Ep.bind (implStable n es p q hel hl) ?_
  rintro _ rfl
  refine Ep.ite (fun h => ?_) (fun h => Ep.now ?_)
  · obtain ⟨m, rfl, g, hp, hb, _⟩ := pOk_all (sOk_pOk h)
    rw [h]
    have hpl := hp.len
    have hq := g.hq
    have hlen := settleS_len es q (litL m es q p) g.n6
    refine Ep.bind0 (copy_eq p hl) ?_
    refine Ep.bind (implFire m es g.hes g.hel p q 1 hpl hq (B := 60) (K := 1) ⟨by omega, by omega⟩ hb (by omega) (by omega)) ?_
    rintro r ⟨hr, _⟩
    have hr' := hr.rep hpl
    refine Ep.pos (by omega) (Ep.pos (by omega) ?_)
    have e : r.set q.toNat 0 = litL m es q p := ((hr'.set hq.1 hq.2 0).congr (t := fun w => rd p w + mult es q w) fun w w0 w1 => by
      by_cases c : w = q
      · rw [if_pos c, c, hp.at_q, mult_self g.hes]; rfl
      · rw [if_neg c, lap_one_ne g.hes c]; omega).eq
    rw [e]
    refine Ep.bind (implStab g (litL_pre g hp hb)) ?_
    rintro _ rfl
    refine (implRec_l0 q p _ _ (by omega) (by omega) (settleS m es q (litL m es q p)).2.length 0 (by omega)).mono ?_
    rintro _ rfl
    rfl
  · have : sOk n es p q = false := by simpa using h
    rw [this]
    rfl
theorem recB_pOk {n : Int} {es : List E} {p : List Int} {q : Int} (h : recB n es p q = true) : pOk n es p q = true := by
  unfold recB at h
  rw [Bool.and_eq_true] at h
  exact sOk_pOk h.1
noncomputable def sumPO (n : Int) (es : List E) (a b : List Int) (q : Int) : List Int × Bool := if (pOk n es a q && (pOk n es b q && pOk n es (plusL a b) q)) = true then ((settleS n.toNat es q (plusL a b)).1, true) else ([], false)
theorem implSumP (n : Int) (es : List E) (a b : List Int) (q : Int) (hl : a.length ≤ 1048576) (hm : b.length ≤ 1048576) : Ep (fun k => impl_SumOfPiles.f k n es a b q) (· = sumPO n es a b q) := by
  simp only [impl_SumOfPiles.f]
  refine Ep.bind (implPile n es a q hl) ?_
  rintro _ rfl
  refine Ep.ite (fun h => ?_) (fun h => ?_)
  · refine Ep.bind (implPile n es b q hm) ?_
    rintro _ rfl
    refine Ep.ite (fun h2 => ?_) (fun h2 => ?_)
    · obtain ⟨m, rfl, g, hp, hb, _⟩ := pOk_all h
      obtain ⟨m', e, _, hp2, hb2, _⟩ := pOk_all h2
      obtain rfl : m = m' := by omega
      have hla := hp.len
      have hlb := hp2.len
      have hpl := implPlus a b hl (by omega) (hb.mono (by omega)) (hb2.mono (by omega))
      refine Ep.bind hpl ?_
      rintro _ rfl
      refine Ep.bind (implPile m es (plusL a b) q (by rw [plusL_len]; omega)) ?_
      rintro _ rfl
      refine Ep.up ?_
      simp only [impl_SumOfPiles.j0]
      refine Ep.ite (fun h3 => Ep.now ?_) (fun h3 => ?_)
      · have : pOk m es (plusL a b) q = false := by simpa using h3
        unfold sumPO
        rw [this]
        simp
      · have h3' : pOk m es (plusL a b) q = true := by simpa using h3
        refine Ep.bind hpl ?_
        rintro _ rfl
        obtain ⟨m'', e2, g3, hp3⟩ := pOk_pre h3'
        obtain rfl : m = m'' := by omega
        refine Ep.bind (implStab g3 hp3) ?_
        rintro _ rfl
        refine Ep.now ?_
        unfold sumPO
        rw [h, h2, h3']
        rfl
    · refine Ep.up ?_
      simp only [impl_SumOfPiles.j0]
      refine Ep.pos trivial (Ep.now ?_)
      have : pOk n es b q = false := by simpa using h2
      unfold sumPO
      rw [this]
      simp
  · refine Ep.up ?_
    simp only [impl_SumOfPiles.j0]
    refine Ep.pos trivial (Ep.now ?_)
    have : pOk n es a q = false := by simpa using h
    unfold sumPO
    rw [this]
    simp
end Go.Proofs.Ytgobnfeahffnaaa.Cf
end

section
namespace Go.Proofs.Ytgobnfeahffnaaa.P
open Go.RowKit Go.Proofs.YtgobnfeahffnaaaW.PrintWords Go.Proofs.YtgobnfeahffnaaaW.PrintLast Go.Proofs.YtgobnfeahffnaaaW.PrintMore
attribute [local go_sem] max2_int min2_int max_two min_two max_three min_three max_four min_four
set_option linter.unusedVariables false
set_option linter.unusedSimpArgs false
def impl_DegreeOf.f (k : Nat) (l0 : List Int) : Option (Int) := (impl_sumOf.f k l0).bind fun t101 => (some t101)
theorem impl_DegreeOf.mono : ∀ a0 k, LeO (impl_DegreeOf.f k a0) (impl_DegreeOf.f (k + 1) a0) := by
 intro a0 k; unfold impl_DegreeOf.f; repeat' first | (with_reducible apply impl_sumOf.mono) | (with_reducible exact LeO.refl _) | (with_reducible exact LeO.none _) | (with_reducible refine LeO.ite ?_ ?_) | (with_reducible refine LeO.bind ?_ (fun _ => ?_)) | apply impl_sumOf.mono | exact LeO.none _ | refine LeO.ite ?_ ?_ | refine LeO.bind ?_ (fun _ => ?_)
def spec_l09Zero.f (k : Nat) (a0_0 : Int) (l0_1 : List (S83)) (l1 : List Int) : Option (Bool) := (spec_DivisorOk.f k a0_0 l0_1 l1).bind fun t102 => (if t102 = true then ((spec_DegreeOf.f k l1).bind fun t103 => (some (t103 == 0))) else (some false))
theorem spec_l09Zero.mono : ∀ a0 a1 a2 k, LeO (spec_l09Zero.f k a0 a1 a2) (spec_l09Zero.f (k + 1) a0 a1 a2) := by
 intro a0 a1 a2 k; unfold spec_l09Zero.f; repeat' first | (with_reducible apply spec_DegreeOf.mono) | (with_reducible apply spec_DivisorOk.mono) | (with_reducible exact LeO.refl _) | (with_reducible exact LeO.none _) | (with_reducible refine LeO.ite ?_ ?_) | (with_reducible refine LeO.bind ?_ (fun _ => ?_)) | apply spec_DegreeOf.mono | apply spec_DivisorOk.mono | exact LeO.none _ | refine LeO.ite ?_ ?_ | refine LeO.bind ?_ (fun _ => ?_)
def impl_ofDegreeZero.f (k : Nat) (a0_0 : Int) (l0_1 : List (S83)) (l1 : List Int) : Option (Bool) := (impl_DivisorOk.f k a0_0 l0_1 l1).bind fun t102 => (if t102 = true then ((impl_DegreeOf.f k l1).bind fun t103 => (some (t103 == 0))) else (some false))
theorem impl_ofDegreeZero.mono : ∀ a0 a1 a2 k, LeO (impl_ofDegreeZero.f k a0 a1 a2) (impl_ofDegreeZero.f (k + 1) a0 a1 a2) := by
 intro a0 a1 a2 k; unfold impl_ofDegreeZero.f; repeat' first | (with_reducible apply impl_DegreeOf.mono) | (with_reducible apply impl_DivisorOk.mono) | (with_reducible exact LeO.refl _) | (with_reducible exact LeO.none _) | (with_reducible refine LeO.ite ?_ ?_) | (with_reducible refine LeO.bind ?_ (fun _ => ?_)) | apply impl_DegreeOf.mono | apply impl_DivisorOk.mono | exact LeO.none _ | refine LeO.ite ?_ ?_ | refine LeO.bind ?_ (fun _ => ?_)
def spec_l11Full.f (k : Nat) (a0_0 : Int) (l0_1 : List (S83)) (l1 : List Int) (a2 : Int) : Option (List Int) := (spec_FullPile.f k a0_0 l0_1 a2).bind fun t102 => ((spec_l07Minus.f k t102 l1).bind fun t105 => (if 0 ≤ a2 then (if a2 < (t105.length : Int) then (some (t105.set (a2 : Int).toNat 0)) else (none)) else (none)))
theorem spec_l11Full.mono : ∀ a0 a1 a2 a3 k, LeO (spec_l11Full.f k a0 a1 a2 a3) (spec_l11Full.f (k + 1) a0 a1 a2 a3) := by
 intro a0 a1 a2 a3 k; unfold spec_l11Full.f; repeat' first | (with_reducible apply spec_FullPile.mono) | (with_reducible apply spec_l07Minus.mono) | (with_reducible exact LeO.refl _) | (with_reducible exact LeO.none _) | (with_reducible refine LeO.ite ?_ ?_) | (with_reducible refine LeO.bind ?_ (fun _ => ?_)) | apply spec_FullPile.mono | apply spec_l07Minus.mono | exact LeO.none _ | refine LeO.ite ?_ ?_ | refine LeO.bind ?_ (fun _ => ?_)
def spec_l11Class.f (k : Nat) (a0_0 : Int) (l0_1 : List (S83)) (l1 : List Int) (a2 : Int) : Option (List Int) := (spec_FullPile.f k a0_0 l0_1 a2).bind fun t102 => ((spec_l07Minus.f k t102 l1).bind fun t105 => ((spec_l05Reduce.f k a0_0 l0_1 t105 a2).bind fun bt108 => ((spec_l11Full.f k a0_0 l0_1 bt108.1 a2).bind fun t114 => (some t114))))
theorem spec_l11Class.mono : ∀ a0 a1 a2 a3 k, LeO (spec_l11Class.f k a0 a1 a2 a3) (spec_l11Class.f (k + 1) a0 a1 a2 a3) := by
 intro a0 a1 a2 a3 k; unfold spec_l11Class.f; repeat' first | (with_reducible apply spec_FullPile.mono) | (with_reducible apply spec_l05Reduce.mono) | (with_reducible apply spec_l07Minus.mono) | (with_reducible apply spec_l11Full.mono) | (with_reducible exact LeO.refl _) | (with_reducible exact LeO.none _) | (with_reducible refine LeO.ite ?_ ?_) | (with_reducible refine LeO.bind ?_ (fun _ => ?_)) | apply spec_FullPile.mono | apply spec_l05Reduce.mono | apply spec_l07Minus.mono | apply spec_l11Full.mono | exact LeO.none _ | refine LeO.ite ?_ ?_ | refine LeO.bind ?_ (fun _ => ?_)
end Go.Proofs.Ytgobnfeahffnaaa.P
end

section
namespace Go.Proofs.Ytgobnfeahffnaaa.Cf
set_option linter.unusedVariables false
set_option linter.unusedSimpArgs false
open Go.RowKit Go.Proofs.YtgobnfeahffnaaaW.PrintWords Go.Proofs.Ytgobnfeahffnaaa.P
noncomputable def classL (n : Nat) (es : List E) (q : Int) (p : List Int) : List Int := (minL (fullP n es q) (reduceS n es q (minL (fullP n es q) p)).1).set q.toNat 0
theorem fullP_ok {n : Nat} {es : List E} {q : Int} (g : Gr n es q) (hg : GOk (n : Int) es) : (fullP (n : Int) es q).length = n ∧ Bd (fullP (n : Int) es q) 12 := by
  have e : fullP (n : Int) es q = fullL n es q := by
    unfold fullP
    rw [if_pos ⟨gOk_iff.2 hg, g.hq⟩]
  rw [e]
  have hl : (fullL (n : Int) es q).length = n := by simp [fullL]
  refine ⟨hl, fun w w0 w1 => ?_⟩
  obtain ⟨i, rfl⟩ := Int.eq_ofNat_of_zero_le w0
  rw [rd_get (by omega)]
  simp only [fullL, List.getElem_map, List.getElem_range]
  unfold fullAt
  have := valG_bd (n := n) (es := es) (v := i)
  have := g.hel
  split <;> omega
theorem implClass {n : Nat} {es : List E} {q : Int} (g : Gr n es q) (hg : GOk (n : Int) es) {p : List Int} (hl : p.length = n) (hb : Bd p 900) : Ep (fun k => impl_recurrentOf.f k (n : Int) es p q) (· = classL n es q p) := by
  have hn := g.n6
  have hq := g.hq
  have hf := fullP_ok g hg
  have hm := minL_len (fullP (n : Int) es q) p
  have hmb : Bd (minL (fullP (n : Int) es q) p) 1000 := (minL_bd (by omega) hf.2 hb).mono (by omega)
  have hr := reduceS_bd g (d := minL (fullP (n : Int) es q) p) (by omega) hmb
  simp only [impl_recurrentOf.f]
  refine Ep.bind (implFull n es q (by simp [Wf, Lit.wf, IntKind.min, IntKind.max, IntKind.signed, IntKind.bits]; omega)) ?_
  rintro _ rfl
  refine Ep.bind (implNeg p (by omega) (hb.mono (by omega))) ?_
  rintro _ rfl
  refine Ep.bind (implPlus _ _ (by omega) (by rw [negL_len]; omega) (hf.2.mono (by omega)) ((negL_bd hb).mono (by omega))) ?_
  rintro _ rfl
  rw [plus_neg (by omega)]
  refine Ep.bind (implReduce g (by omega) hmb) ?_
  rintro _ rfl
  refine Ep.bind (implNeg _ (by omega) (hr.2.mono (by omega))) ?_
  rintro _ rfl
  refine Ep.bind (implPlus _ _ (by omega) (by rw [negL_len]; omega) (hf.2.mono (by omega)) ((negL_bd hr.2).mono (by omega))) ?_
  rintro _ rfl
  rw [plus_neg (by omega)]
  have := minL_len (fullP (n : Int) es q) (reduceS n es q (minL (fullP (n : Int) es q) p)).1
  exact Ep.pos (by omega) (Ep.pos (by omega) (Ep.now rfl))
end Go.Proofs.Ytgobnfeahffnaaa.Cf
end

section
namespace Go.Proofs.Ytgobnfeahffnaaa.P
open Go.RowKit Go.Proofs.YtgobnfeahffnaaaW.PrintWords Go.Proofs.YtgobnfeahffnaaaW.PrintLast Go.Proofs.YtgobnfeahffnaaaW.PrintMore
attribute [local go_sem] max2_int min2_int max_two min_two max_three min_three max_four min_four
set_option linter.unusedVariables false
set_option linter.unusedSimpArgs false
def spec_SumOfClasses.j0 : Nat → List Int → List Int → Bool → Int → List (S83) → Option (List Int × Bool)
 | 0, _, _, _, _, _ => none
 | k + 1, x1, x2, x21, x102000, x102001 => if x21 = true then (some (([] : List Int), false)) else ((spec_AddDivisors.f k x1 x2).bind fun bt104 => ((spec_l05Reduce.f k x102000 x102001 bt104.1 0).bind fun bt108 => (some (bt108.1, true))))
def spec_SumOfClasses.f (k : Nat) (a0_0 : Int) (l0_1 : List (S83)) (l1 : List Int) (l2 : List Int) : Option (List Int × Bool) := (spec_l09Zero.f k a0_0 l0_1 l1).bind fun t102 => (if t102 = true then ((spec_l09Zero.f k a0_0 l0_1 l2).bind fun t103 => (spec_SumOfClasses.j0 k l1 l2 (!t103) a0_0 l0_1)) else (spec_SumOfClasses.j0 k l1 l2 true a0_0 l0_1))
theorem spec_SumOfClasses.mono_l : ∀ k, (∀ y0 y1 y2 y3 y4, LeO (spec_SumOfClasses.j0 k y0 y1 y2 y3 y4) (spec_SumOfClasses.j0 (k + 1) y0 y1 y2 y3 y4))
 | 0 => fun _ _ _ _ _ r h => by simp [spec_SumOfClasses.j0] at h
 | k + 1 => by
  have ih0 := spec_SumOfClasses.mono_l k
  ·intro y0 y1 y2 y3 y4
   unfold spec_SumOfClasses.j0
   exact zm13
theorem spec_SumOfClasses.mono : ∀ a0 a1 a2 a3 k, LeO (spec_SumOfClasses.f k a0 a1 a2 a3) (spec_SumOfClasses.f (k + 1) a0 a1 a2 a3) := by
 intro a0 a1 a2 a3 k; have ih0 := spec_SumOfClasses.mono_l k; unfold spec_SumOfClasses.f; exact zm13
def impl_SumOfClasses.j0 : Nat → List Int → List Int → Bool → Int → List (S83) → Option (List Int × Bool)
 | 0, _, _, _, _, _ => none
 | k + 1, x1, x2, x19, x102000, x102001 => if x19 = true then (some (([] : List Int), false)) else ((impl_plus.f k x1 x2).bind fun t104 => ((impl_reduce.f k x102000 x102001 t104 0).bind fun bt107 => (some (bt107.1, true))))
def impl_SumOfClasses.f (k : Nat) (a0_0 : Int) (l0_1 : List (S83)) (l1 : List Int) (l2 : List Int) : Option (List Int × Bool) := (impl_ofDegreeZero.f k a0_0 l0_1 l1).bind fun t102 => (if t102 = true then ((impl_ofDegreeZero.f k a0_0 l0_1 l2).bind fun t103 => (impl_SumOfClasses.j0 k l1 l2 (!t103) a0_0 l0_1)) else (impl_SumOfClasses.j0 k l1 l2 true a0_0 l0_1))
theorem impl_SumOfClasses.mono_l : ∀ k, (∀ y0 y1 y2 y3 y4, LeO (impl_SumOfClasses.j0 k y0 y1 y2 y3 y4) (impl_SumOfClasses.j0 (k + 1) y0 y1 y2 y3 y4))
 | 0 => fun _ _ _ _ _ r h => by simp [impl_SumOfClasses.j0] at h
 | k + 1 => by
  have ih0 := impl_SumOfClasses.mono_l k
  ·intro y0 y1 y2 y3 y4
   unfold impl_SumOfClasses.j0
   exact zm15
theorem impl_SumOfClasses.mono : ∀ a0 a1 a2 a3 k, LeO (impl_SumOfClasses.f k a0 a1 a2 a3) (impl_SumOfClasses.f (k + 1) a0 a1 a2 a3) := by
 intro a0 a1 a2 a3 k; have ih0 := impl_SumOfClasses.mono_l k; unfold impl_SumOfClasses.f; exact zm15
def spec_IdentityPile.f (k : Nat) (a0_0 : Int) (l0_1 : List (S83)) (a1 : Int) : Option (List Int × Bool) := (spec_GraphOk.f k a0_0 l0_1).bind fun t102 => (if t102 = true then ((spec_l01In.f a1 0 (wrap64 (a0_0 - 1))).bind fun t103 => (if t103 = true then (if 0 ≤ a0_0 then (if (a0_0 : Int).toNat ≤ 35184372088832 then ((spec_l11Class.f k a0_0 l0_1 (List.replicate (a0_0 : Int).toNat 0) a1).bind fun t107 => (some (t107, true))) else (none)) else (none)) else (some (([] : List Int), false)))) else (some (([] : List Int), false)))
theorem spec_IdentityPile.mono : ∀ a0 a1 a2 k, LeO (spec_IdentityPile.f k a0 a1 a2) (spec_IdentityPile.f (k + 1) a0 a1 a2) := by
 intro a0 a1 a2 k; unfold spec_IdentityPile.f; repeat' first | (with_reducible apply spec_GraphOk.mono) | (with_reducible apply spec_l11Class.mono) | (with_reducible exact LeO.refl _) | (with_reducible exact LeO.none _) | (with_reducible refine LeO.ite ?_ ?_) | (with_reducible refine LeO.bind ?_ (fun _ => ?_)) | apply spec_GraphOk.mono | apply spec_l11Class.mono | exact LeO.none _ | refine LeO.ite ?_ ?_ | refine LeO.bind ?_ (fun _ => ?_)
end Go.Proofs.Ytgobnfeahffnaaa.P
end

section
namespace Go.Proofs.Ytgobnfeahffnaaa.Cf
set_option linter.unusedVariables false
set_option linter.unusedSimpArgs false
open Go.RowKit Go.Proofs.YtgobnfeahffnaaaW.PrintWords Go.Proofs.Ytgobnfeahffnaaa.P
noncomputable def recuO (n : Int) (es : List E) (p : List Int) (q : Int) : List Int × Bool := if pOk n es p q = true then (classL n.toNat es q p, true) else ([], false)
theorem implRecu (n : Int) (es : List E) (p : List Int) (q : Int) (hl : p.length ≤ 1048576) : Ep (fun k => impl_RecurrentOf.f k n es p q) (· = recuO n es p q) := by
  simp only [impl_RecurrentOf.f, recuO]
  refine Ep.bind (implPile n es p q hl) ?_
  rintro _ rfl
  refine Ep.ite (fun h => ?_) (fun h => Ep.now (by rw [if_neg h]))
  have hg := (pOk_iff.1 h).1.1
  obtain ⟨m, rfl, g, hp, hb, _⟩ := pOk_all h
  refine Ep.bind (implClass g hg hp.len (hb.mono (by omega))) ?_
  rintro _ rfl
  exact Ep.now (by rw [if_pos h]; rfl)
noncomputable def invPO (n : Int) (es : List E) (p : List Int) (q : Int) : List Int × Bool := if recB n es p q = true then (classL n.toNat es q (negL p), true) else ([], false)
theorem implInvP (n : Int) (es : List E) (p : List Int) (q : Int) (hel : es.length ≤ 1048576) (hl : p.length ≤ 1048576) : Ep (fun k => impl_InversePile.f k n es p q) (· = invPO n es p q) := by
  simp only [impl_InversePile.f, invPO]
  refine Ep.bind (implRecur n es p q hel hl) ?_
  rintro _ rfl
  refine Ep.ite (fun h => ?_) (fun h => Ep.now (by rw [if_neg h]))
  have hg := (pOk_iff.1 (recB_pOk h)).1.1
  obtain ⟨m, rfl, g, hp, hb, _⟩ := pOk_all (recB_pOk h)
  refine Ep.bind (implNeg p hl (hb.mono (by omega))) ?_
  rintro _ rfl
  refine Ep.bind (implClass g hg (by rw [negL_len]; exact hp.len) ((negL_bd hb).mono (by omega))) ?_
  rintro _ rfl
  exact Ep.now (by rw [if_pos h]; rfl)
noncomputable def idPO (n : Int) (es : List E) (q : Int) : List Int × Bool := if (gOk n es && decide (0 ≤ q ∧ q < n)) = true then (classL n.toNat es q (List.replicate n.toNat 0), true) else ([], false)
theorem Bd.zeros (n : Nat) : Bd (List.replicate n (0 : Int)) 900 := (Rep.zero n).bd fun _ _ _ => by omega
theorem implIdP (n : Int) (es : List E) (q : Int) (hn : Wf .i64 n) : Ep (fun k => impl_IdentityPile.f k n es q) (· = idPO n es q) := by
  simp only [impl_IdentityPile.f, idPO]
  refine Ep.bind0 (isVertex_eq n es q hn) ?_
  refine Ep.ite (fun h => ?_) (fun h => Ep.now (by rw [if_neg h]))
  have h' := h
  rw [Bool.and_eq_true, decide_eq_true_eq] at h'
  have hG := gOk_true h'.1
  have hG1 := hG.1
  unfold EsOk at hG1
  obtain ⟨m, rfl⟩ := Int.eq_ofNat_of_zero_le (a := n) (by omega)
  refine Ep.pos (by omega) (Ep.pos (by omega) ?_)
  refine Ep.bind (implClass (Gr.of hG h'.2) hG (p := List.replicate m 0) (by simp) (Bd.zeros m)) ?_
  rintro _ rfl
  exact Ep.now (by rw [if_pos h]; rfl)
end Go.Proofs.Ytgobnfeahffnaaa.Cf
end

section
namespace Go.Proofs.Ytgobnfeahffnaaa.Cf
set_option linter.unusedVariables false
set_option linter.unusedSimpArgs false
/-- The full configuration less c. -/
def fullM (es : List E) (c : Int → Int) (v : Int) : Int := val es v - 1 - c v
/-- No forbidden set: each set without q has a vertex with at least as many chips as edges inside. -/
def NoForb (n : Nat) (es : List E) (q : Int) (c : Int → Int) : Prop := ∀ S : Int → Bool, S q = false → (∃ v : Int, 0 ≤ v ∧ v < n ∧ S v = true) → ∃ v : Int, 0 ≤ v ∧ v < n ∧ S v = true ∧ fullM es c v < lap es (ind S) v
theorem noForb_red {n : Nat} {es : List E} {q : Int} {c : Int → Int} (h : NoForb n es q c) (hs : Stable n es q c) : Red n es q (fullM es c) := by
  refine ⟨fun v h0 h1 h2 => ?_, h⟩
  have := hs v h0 h1 h2
  unfold fullM
  omega
theorem NoForb.more {n : Nat} {es : List E} {q : Int} {c c' : Int → Int} (h : NoForb n es q c) (hc : ∀ v : Int, 0 ≤ v → v < n → v ≠ q → c v ≤ c' v) : NoForb n es q c' := fun S hS hx => by
  obtain ⟨v, h0, h1, h2, h3⟩ := h S hS hx
  have hv : v ≠ q := by
    rintro rfl
    rw [hS] at h2
    cases h2
  have := hc v h0 h1 hv
  refine ⟨v, h0, h1, h2, ?_⟩
  unfold fullM at *
  omega
/-- A set less one vertex. -/
def del (S : Int → Bool) (v x : Int) : Bool := S x && decide (x ≠ v)
theorem ind_del {S : Int → Bool} {v : Int} (hv : S v = true) : ind S = fun x => ind (del S v) x + one v 1 x := by
  funext x
  unfold ind del one
  by_cases c : x = v
  · simp [c, hv]
  · simp [c]
theorem NoForb.topple {n : Nat} {es : List E} (hes : ∀ e ∈ es, EOk n e) {q : Int} {c : Int → Int} (h : NoForb n es q c) {v : Int} (hv : val es v ≤ c v) : NoForb n es q (fun w => c w - lap es (one v 1) w) := fun S hS hx => by
  by_cases hm : S v = true
  · by_cases hne : ∃ u : Int, 0 ≤ u ∧ u < n ∧ del S v u = true
    · obtain ⟨u, h0, h1, h2, h3⟩ := h (del S v) (by simp [del, hS]) hne
      have hu : S u = true ∧ u ≠ v := by simpa [del] using h2
      refine ⟨u, h0, h1, hu.1, ?_⟩
      show val es u - 1 - (c u - lap es (one v 1) u) < _
      rw [ind_del hm, lap_add]
      unfold fullM at h3
      omega
    · obtain ⟨u, h0, h1, h2⟩ := hx
      have huv : u = v := by
        apply Classical.byContradiction
        intro hc
        exact hne ⟨u, h0, h1, by simp [del, h2, hc]⟩
      subst huv
      refine ⟨u, h0, h1, hm, ?_⟩
      have hz : lap es (ind (del S u)) u = 0 := by
        refine (lap_congr hes (t := fun _ => 0) (fun w w0 w1 => ?_) u).trans (lap_const (c := 0) (fun _ _ => ⟨rfl, rfl⟩) u)
        unfold ind
        rw [if_neg]
        intro hd
        exact hne ⟨w, w0, w1, hd⟩
      show val es u - 1 - (c u - lap es (one u 1) u) < _
      rw [ind_del hm, lap_add, hz]
      have := lap_one_self hes u 1
      omega
  · obtain ⟨u, h0, h1, h2, h3⟩ := h S hS hx
    have huv : u ≠ v := by
      rintro rfl
      exact hm h2
    refine ⟨u, h0, h1, h2, ?_⟩
    have h4 := lap_one_ne hes huv 1
    have h5 := mult_nonneg es v u
    show val es u - 1 - (c u - lap es (one v 1) u) < _
    unfold fullM at h3
    omega
theorem NoForb.legal {n : Nat} {es : List E} (hes : ∀ e ∈ es, EOk n e) {q : Int} {p s : Int → Int} (h : NoForb n es q p) (hs : Legal n es q p s) : NoForb n es q (fun v => p v - lap es s v) := by
  induction hs with
  | zero =>
    refine h.more fun v _ _ _ => ?_
    rw [lap_const (c := 0) (fun _ _ => ⟨rfl, rfl⟩)]
    omega
  | @step s v _ h0 h1 hq hv ih =>
    refine (ih.topple hes hv).more fun w _ _ _ => ?_
    rw [lap_add]
    omega
/-- Each vertex but q, once; but those of U not yet. -/
def fired (q : Int) (U : Int → Bool) (v : Int) : Int := if v = q then 0 else if U v = true then 0 else 1
theorem lap_fired {n : Nat} {es : List E} (hes : ∀ e ∈ es, EOk n e) {q : Int} {U : Int → Bool} (hU : U q = false) {v : Int} (hv : v ≠ q) : lap es (fired q U) v = mult es q v - lap es (ind U) v := by
  have e : (fun x => fired q U x + (ind U x + one q 1 x)) = fun _ => 1 := by
    funext x
    unfold fired ind one
    by_cases c : x = q
    · subst c
      simp [hU]
    · by_cases c2 : U x = true
      · simp [c, c2]
      · simp [c, c2]
  have h0 : lap es (fun x => fired q U x + (ind U x + one q 1 x)) v = 0 := by
    rw [e]
    exact lap_const (c := 1) (fun _ _ => ⟨rfl, rfl⟩) v
  rw [lap_add, lap_add, lap_one_ne hes hv] at h0
  omega
/-- The lit configuration. -/
def lit (es : List E) (q : Int) (c : Int → Int) (v : Int) : Int := c v + mult es q v
theorem lit_legal {n : Nat} {es : List E} (hes : ∀ e ∈ es, EOk n e) {q : Int} {c : Int → Int} (h : NoForb n es q c) : ∀ (k : Nat) (U : Int → Bool), U q = false → (∀ v, U v = true → 0 ≤ v ∧ v < n) → (List.range n).countP (fun i : Nat => U (i : Int)) = k → Legal n es q (lit es q c) (fun v => if 0 ≤ v ∧ v < (n : Int) then fired q U v else 0) → Legal n es q (lit es q c) (fun v => if 0 ≤ v ∧ v < (n : Int) then fired q (fun _ => false) v else 0) := by
  intro k
  induction k with
  | zero =>
    intro U hq hr hc hl
    have hU : U = fun _ => false := by
      funext v
      cases hb : U v with
      | false => rfl
      | true =>
        have hv := hr v hb
        have := (List.countP_eq_zero.1 hc) v.toNat (List.mem_range.2 (by omega))
        have e : ((v.toNat : Nat) : Int) = v := by omega
        rw [e, hb] at this
        exact absurd rfl this
    rw [hU] at hl
    exact hl
  | succ k ih =>
    intro U hq hr hc hl
    have hex : ∃ v : Int, 0 ≤ v ∧ v < n ∧ U v = true := by
      have hp : 0 < (List.range n).countP (fun i : Nat => U (i : Int)) := by omega
      obtain ⟨i, hi, hu⟩ := List.countP_pos_iff.1 hp
      exact ⟨i, by omega, by have := List.mem_range.1 hi; omega, hu⟩
    obtain ⟨u, h0, h1, h2, h3⟩ := h U hq hex
    have huq : u ≠ q := by
      rintro rfl
      rw [hq] at h2
      cases h2
    have hstep := hl.step h0 h1 huq (by
      have e : lap es (fun v => if 0 ≤ v ∧ v < (n : Int) then fired q U v else 0) u = lap es (fired q U) u := lap_congr hes (fun w w0 w1 => by rw [if_pos ⟨w0, w1⟩]) u
      rw [e, lap_fired hes hq huq]
      unfold lit fullM at *
      omega)
    refine ih (del U u) (by simp [del, hq]) (fun v hv => hr v (by simp [del] at hv; exact hv.1)) ?_ ?_
    · have hlt : (List.range n).countP (fun i : Nat => U (i : Int)) = (List.range n).countP (fun i : Nat => del U u (i : Int)) + 1 := by
        have key : ∀ m : Nat, (List.range m).countP (fun i : Nat => U (i : Int)) = (List.range m).countP (fun i : Nat => del U u (i : Int)) + if u < m then 1 else 0 := by
          intro m
          induction m with
          | zero => simp; omega
          | succ m ihm =>
            rw [List.range_succ, List.countP_append, List.countP_append, ihm, List.countP_cons, List.countP_cons, List.countP_nil, List.countP_nil]
            by_cases c : (m : Int) = u
            · subst c
              simp [del, h2]
              omega
            · have hd : del U u (m : Int) = U (m : Int) := by simp [del, c]
              rw [hd]
              have h9 : (u < ((m + 1 : Nat) : Int)) ↔ (u < (m : Int)) := by omega
              simp only [h9]
              omega
        have := key n
        rw [if_pos h1] at this
        exact this
      omega
    · have e : (fun v => if 0 ≤ v ∧ v < (n : Int) then fired q (del U u) v else 0) = fun w => (fun v => if 0 ≤ v ∧ v < (n : Int) then fired q U v else 0) w + one u 1 w := by
        funext w
        unfold fired del one
        by_cases c : w = u
        · subst c
          simp [h0, h1, huq, h2]
        · simp [c]
      rw [e]
      exact hstep
/-- Each vertex but q topples once, and the configuration comes back. -/
theorem lit_once {n : Nat} {es : List E} (hes : ∀ e ∈ es, EOk n e) {q : Int} {c : Int → Int} (h : NoForb n es q c) :
    Legal n es q (lit es q c) (fun v => if 0 ≤ v ∧ v < (n : Int) then fired q (fun _ => false) v else 0) ∧ ∀ v : Int, v ≠ q → lit es q c v - lap es (fun v => if 0 ≤ v ∧ v < (n : Int) then fired q (fun _ => false) v else 0) v = c v := by
  constructor
  · refine lit_legal hes h _ (fun v => decide (0 ≤ v ∧ v < (n : Int) ∧ v ≠ q)) (by simp) (fun v hv => ?_) rfl ?_
    · have : 0 ≤ v ∧ v < (n : Int) ∧ v ≠ q := by simpa using hv
      exact ⟨this.1, this.2.1⟩
    · have e : (fun v => if 0 ≤ v ∧ v < (n : Int) then fired q (fun v => decide (0 ≤ v ∧ v < (n : Int) ∧ v ≠ q)) v else 0) = fun _ => 0 := by
        funext v
        unfold fired
        by_cases c : 0 ≤ v ∧ v < (n : Int)
        · by_cases c2 : v = q
          · simp [c2]
          · simp [c, c2]
        · simp [c]
      rw [e]
      exact .zero
  · intro v hv
    have e : lap es (fun v => if 0 ≤ v ∧ v < (n : Int) then fired q (fun _ => false) v else 0) v = lap es (fired q (fun _ => false)) v := lap_congr hes (fun w w0 w1 => by rw [if_pos ⟨w0, w1⟩]) v
    rw [e, lap_fired hes rfl hv]
    have hz : lap es (ind (fun _ => false)) v = 0 := lap_const (c := 0) (fun _ _ => ⟨by simp [ind], by simp [ind]⟩) v
    unfold lit
    omega
/-- Two stable recurrent configurations of one class are one (off q). -/
theorem recur_unique {n : Nat} {es : List E} (hes : ∀ e ∈ es, EOk n e) {q : Int} (hq : 0 ≤ q ∧ q < n) {c c' t : Int → Int} (h : NoForb n es q c) (hs : Stable n es q c) (h' : NoForb n es q c') (hs' : Stable n es q c') (ht : ∀ v : Int, 0 ≤ v → v < n → c' v = c v - lap es t v) : ∀ v : Int, 0 ≤ v → v < n → c' v = c v := by
  have := red_unique hes hq (noForb_red h hs) (noForb_red h' hs') (s := fun v => - t v) (fun v v0 v1 => by
    rw [lap_neg]
    have := ht v v0 v1
    unfold fullM
    omega)
  intro v v0 v1
  have := this.2 v v0 v1
  unfold fullM at this
  omega
end Go.Proofs.Ytgobnfeahffnaaa.Cf
end

section
namespace Go.Proofs.Ytgobnfeahffnaaa.Cf
set_option linter.unusedVariables false
set_option linter.unusedSimpArgs false
open Go.RowKit Go.Proofs.YtgobnfeahffnaaaW.PrintWords
/-- A recurrent configuration. -/
structure RecL (n : Nat) (es : List E) (q : Int) (c : List Int) : Prop where
  len : c.length = n
  at_q : rd c q = 0
  noForb : NoForb n es q (rd c)
  stable : Stable n es q (rd c)
  nonneg : ∀ v : Int, 0 ≤ v → v < n → v ≠ q → 0 ≤ rd c v
/-- Of one class, off q. -/
def Off (n : Nat) (es : List E) (q : Int) (p c : List Int) : Prop := ∃ t : Int → Int, ∀ v : Int, 0 ≤ v → v < n → v ≠ q → rd c v = rd p v - lap es t v
theorem Off.symm {n : Nat} {es : List E} {q : Int} {p c : List Int} (h : Off n es q p c) : Off n es q c p := by
  obtain ⟨t, ht⟩ := h
  refine ⟨fun v => - t v, fun v h0 h1 h2 => ?_⟩
  rw [lap_neg]
  have := ht v h0 h1 h2
  omega
theorem Off.trans {n : Nat} {es : List E} {q : Int} {p c d : List Int} (h : Off n es q p c) (k : Off n es q c d) : Off n es q p d := by
  obtain ⟨t, ht⟩ := h
  obtain ⟨u, hu⟩ := k
  refine ⟨fun v => t v + u v, fun v h0 h1 h2 => ?_⟩
  rw [lap_add]
  have := ht v h0 h1 h2
  have := hu v h0 h1 h2
  omega
theorem rd_plusL {n : Nat} {a b : List Int} (ha : a.length = n) {v : Int} (h0 : 0 ≤ v) (h1 : v < n) : rd (plusL a b) v = rd a v + rd b v := by
  unfold plusL
  exact (repL_rep a.length _).2 v h0 (by omega)
theorem rd_negL {n : Nat} {a : List Int} (ha : a.length = n) {v : Int} (h0 : 0 ≤ v) (h1 : v < n) : rd (negL a) v = - rd a v := by
  unfold negL
  exact (repL_rep a.length _).2 v h0 (by omega)
theorem rd_minL {n : Nat} {a b : List Int} (ha : a.length = n) {v : Int} (h0 : 0 ≤ v) (h1 : v < n) : rd (minL a b) v = rd a v - rd b v := by
  unfold minL
  exact (repL_rep a.length _).2 v h0 (by omega)
theorem Off.add {n : Nat} {es : List E} {q : Int} {a b a' b' : List Int} (ha : a.length = n) (ha' : a'.length = n) (h : Off n es q a a') (k : Off n es q b b') : Off n es q (plusL a b) (plusL a' b') := by
  obtain ⟨t, ht⟩ := h
  obtain ⟨u, hu⟩ := k
  refine ⟨fun v => t v + u v, fun v h0 h1 h2 => ?_⟩
  rw [lap_add, rd_plusL ha h0 h1, rd_plusL ha' h0 h1]
  have := ht v h0 h1 h2
  have := hu v h0 h1 h2
  omega
theorem Off.of {n : Nat} {es : List E} {q : Int} {p c : List Int} (h : ∀ v : Int, 0 ≤ v → v < n → rd c v = rd p v) : Off n es q p c :=
  ⟨fun _ => 0, fun v h0 h1 _ => by rw [h v h0 h1, lap_const (c := 0) (fun _ _ => ⟨rfl, rfl⟩)]; omega⟩
theorem NoForb.congr {n : Nat} {es : List E} {q : Int} {c c' : Int → Int} (h : NoForb n es q c) (he : ∀ v : Int, 0 ≤ v → v < n → v ≠ q → c' v = c v) : NoForb n es q c' := h.more fun v h0 h1 h2 => by rw [he v h0 h1 h2]; exact Int.le_refl _
/-- One recurrent configuration a class. -/
theorem RecL.unique {n : Nat} {es : List E} {q : Int} (g : Gr n es q) {c c' : List Int} (h : RecL n es q c) (h' : RecL n es q c') (ho : Off n es q c c') : c = c' := by
  obtain ⟨t, ht⟩ := ho
  have key := recur_unique g.hes g.hq (c := rd c) (c' := fun v => if v = q then rd c q - lap es t q else rd c' v) (t := t) h.noForb h.stable
    (h'.noForb.congr fun v _ _ v2 => by rw [if_neg v2]) (fun v v0 v1 v2 => by
      show (if v = q then rd c q - lap es t q else rd c' v) < val es v
      rw [if_neg v2]; exact h'.stable v v0 v1 v2) (fun v v0 v1 => by
      by_cases e : v = q
      · rw [if_pos e, e]
      · rw [if_neg e]; exact ht v v0 v1 e)
  refine (Rep.self h.len).ext ((Rep.self h'.len).congr fun v v0 v1 => ?_)
  by_cases e : v = q
  · rw [e, h.at_q, h'.at_q]
  · have := key v v0 v1
    simp only [if_neg e] at this
    exact this
theorem rd_full {n : Nat} {es : List E} {q : Int} (g : Gr n es q) (hg : GOk (n : Int) es) {v : Int} (h0 : 0 ≤ v) (h1 : v < n) (hv : v ≠ q) : rd (fullP (n : Int) es q) v = val es v - 1 := by
  have e : fullP (n : Int) es q = fullL n es q := by
    unfold fullP
    rw [if_pos ⟨gOk_iff.2 hg, g.hq⟩]
  obtain ⟨i, rfl⟩ := Int.eq_ofNat_of_zero_le h0
  rw [e, rd_get (by simp [fullL]; omega)]
  simp only [fullL, List.getElem_map, List.getElem_range]
  unfold fullAt
  rw [if_neg hv, valG_in ⟨h0, h1⟩]
/-- The recurrent configuration of p's class. -/
theorem classL_rec {n : Nat} {es : List E} {q : Int} (g : Gr n es q) (hg : GOk (n : Int) es) {p : List Int} (hl : p.length = n) (hb : Bd p 900) : RecL n es q (classL n es q p) ∧ Off n es q p (classL n es q p) := by
  have hf := fullP_ok g hg
  have hm := minL_len (fullP (n : Int) es q) p
  have hmb : Bd (minL (fullP (n : Int) es q) p) 1000 := (minL_bd (by omega) hf.2 hb).mono (by omega)
  have hr := reduceS_ok g (d := minL (fullP (n : Int) es q) p) (by omega) hmb
  obtain ⟨r1, r2, r3, r4, r5⟩ := hr
  generalize hR : reduceS n es q (minL (fullP (n : Int) es q) p) = R at r1 r2 r3 r4 r5
  have hcl : classL n es q p = (minL (fullP (n : Int) es q) R.1).set q.toNat 0 := by unfold classL; rw [hR]
  have hset := ((repL_rep n fun w => rd (fullP (n : Int) es q) w - rd R.1 w)).set g.hq.1 g.hq.2 0
  have e : (repL n fun w => rd (fullP (n : Int) es q) w - rd R.1 w) = minL (fullP (n : Int) es q) R.1 := by unfold minL; rw [hf.1]
  rw [e] at hset
  rw [hcl]
  have hv : ∀ v : Int, 0 ≤ v → v < n → v ≠ q → rd ((minL (fullP (n : Int) es q) R.1).set q.toNat 0) v = val es v - 1 - rd R.1 v := by
    intro v v0 v1 v2
    have h1 := hset.2 v v0 v1
    simp only [if_neg v2] at h1
    rw [h1, rd_full g hg v0 v1 v2]
  refine ⟨⟨hset.1, ?_, ?_, fun v v0 v1 v2 => ?_, fun v v0 v1 v2 => ?_⟩, ⟨fun v => - rd R.2 v, fun v v0 v1 v2 => ?_⟩⟩
  · have h1 := hset.2 q g.hq.1 g.hq.2
    simp only [if_true] at h1
    exact h1
  · intro S hS hx
    obtain ⟨v, v0, v1, v2, v3⟩ := r3.2 S hS hx
    have hvq : v ≠ q := by
      rintro rfl
      rw [hS] at v2
      cases v2
    refine ⟨v, v0, v1, v2, ?_⟩
    unfold fullM
    rw [hv v v0 v1 hvq]
    omega
  · rw [hv v v0 v1 v2]
    have := r3.1 v v0 v1 v2
    omega
  · rw [hv v v0 v1 v2]
    have := (r3.lt g.hes v0 v1 v2).2
    omega
  · have h5 := r5 v v0 v1
    rw [rd_minL hf.1 v0 v1, rd_full g hg v0 v1 v2] at h5
    rw [hv v v0 v1 v2, lap_neg]
    omega
theorem RecL.bd {n : Nat} {es : List E} {q : Int} (g : Gr n es q) {c : List Int} (h : RecL n es q c) : Bd c 12 := fun v h0 h1 => by
  have hl := h.len
  by_cases e : v = q
  · rw [e, h.at_q]; omega
  · have h1 := h.nonneg v h0 (by omega) e
    have h2 := h.stable v h0 (by omega) e
    have := val_le es v
    have := g.hel
    omega
theorem pile_of {n : Nat} {es : List E} {q : Int} (g : Gr n es q) (hg : GOk (n : Int) es) {c : List Int} (hl : c.length = n) (hq : rd c q = 0) (hnn : ∀ v : Int, 0 ≤ v → v < n → v ≠ q → 0 ≤ rd c v) (hb : Bd c 60) : pOk n es c q = true := by
  rw [pOk_iff]
  have hx : ∀ x ∈ c, 0 ≤ x ∧ x ≤ 60 := by
    intro x hx
    obtain ⟨i, hi, rfl⟩ := List.getElem_of_mem hx
    have h2 := hb i (by omega) (by omega)
    rw [rd_get hi] at h2
    refine ⟨?_, h2.2⟩
    by_cases e : (i : Int) = q
    · rw [← e, rd_get hi] at hq
      omega
    · have := hnn i (by omega) (by omega) e
      rw [rd_get hi] at this
      exact this
  exact ⟨⟨hg, by omega, fun x h => by have := hx x h; omega⟩, g.hq, fun x h => (hx x h).1, hq⟩
theorem unst_stable {n : Nat} {es : List E} {q : Int} {p : List Int} (hp : p.length = n) (hs : Stable n es q (rd p)) : unst n es q p p.length 0 < 0 := by
  rcases unst_ok n es q p p.length 0 with ⟨h1, _⟩ | ⟨h1, h2, h3, h4⟩
  · omega
  · have := hs (unst n es q p p.length 0) (by omega) (by omega) h3
    rw [valG_in ⟨by omega, by omega⟩] at h4
    omega
theorem RecL.sOk {n : Nat} {es : List E} {q : Int} (g : Gr n es q) (hg : GOk (n : Int) es) {c : List Int} (h : RecL n es q c) : sOk n es c q = true := by
  unfold Cf.sOk
  rw [pile_of g hg h.len h.at_q h.nonneg ((h.bd g).mono (by omega)), Bool.true_and, decide_eq_true_eq]
  exact unst_stable h.len h.stable
theorem onesF_all (q : Int) (c : List Int) : ∀ (d i : Nat), (∀ j : Nat, i ≤ j → j < i + d → (j : Int) ≠ q → rd c (j : Int) = 1) → onesF q c d i = true
  | 0, _, _ => rfl
  | d + 1, i, h => by
    unfold onesF
    by_cases e : (i : Int) = q
    · rw [if_pos e]
      exact onesF_all q c d (i + 1) fun j h1 h2 h3 => h j (by omega) (by omega) h3
    · rw [if_neg e, if_pos (h i (by omega) (by omega) e)]
      exact onesF_all q c d (i + 1) fun j h1 h2 h3 => h j (by omega) (by omega) h3
/-- The test says so. -/
theorem RecL.recB {n : Nat} {es : List E} {q : Int} (g : Gr n es q) (hg : GOk (n : Int) es) {c : List Int} (h : RecL n es q c) : recB n es c q = true := by
  have hlo := lit_once g.hes h.noForb
  have hlit : Rep n (litL n es q c) (lit es q (rd c)) := repL_rep n _
  have hset : Settled n es q (litL n es q c) (c, repL n fun v => if 0 ≤ v ∧ v < (n : Int) then fired q (fun _ => false) v else 0) := by
    have hsub : ∀ {s : Int → Int}, Legal n es q (lit es q (rd c)) s → Legal n es q (rd (litL n es q c)) s := by
      intro s hs
      induction hs with
      | zero => exact .zero
      | step _ h0 h1 h2 h3 ih => exact ih.step h0 h1 h2 (by rw [hlit.2 _ h0 h1]; exact h3)
    refine ⟨_, hsub hlo.1, fun v v0 v1 v2 => ?_, (Rep.self h.len).congr fun v v0 v1 => ?_, (show Rep n (repL n fun v => if 0 ≤ v ∧ v < (n : Int) then fired q (fun _ => false) v else 0) _ from repL_rep n _)⟩
    · have := hlo.2 v v2
      show rd (litL n es q c) v - _ < val es v
      rw [hlit.2 v v0 v1, this]
      exact h.stable v v0 v1 v2
    · by_cases e : v = q
      · rw [if_pos e, e, h.at_q]
      · have := hlo.2 v e
        rw [if_neg e, hlit.2 v v0 v1, this]
  have heq := hset.eq
  unfold Cf.recB
  rw [h.sOk g hg, Bool.true_and]
  unfold isR
  show (if onesF q (settleS n es q (litL n es q c)).2 (settleS n es q (litL n es q c)).2.length 0 = true then decide ((settleS n es q (litL n es q c)).1 = c) else false) = true
  rw [← heq]
  simp only
  rw [if_pos]
  · simp
  · refine onesF_all q _ _ 0 fun j _ h1 h2 => ?_
    rw [repL_len] at h1
    rw [(repL_rep n _).2 j (by omega) (by omega), if_pos ⟨by omega, by omega⟩]
    unfold fired
    rw [if_neg h2]
    simp
/-- Adding and stabilizing. -/
theorem RecL.settle {n : Nat} {es : List E} {q : Int} (g : Gr n es q) {a b : List Int} (ha : RecL n es q a) (hbl : b.length = n) (hbq : rd b q = 0) (hbn : ∀ v : Int, 0 ≤ v → v < n → v ≠ q → 0 ≤ rd b v) (hbb : Bd b 60) :
    RecL n es q (settleS n es q (plusL a b)).1 ∧ Off n es q (plusL a b) (settleS n es q (plusL a b)).1 := by
  have hpre : Pre n q (plusL a b) := by
    refine ⟨by rw [plusL_len]; exact ha.len, fun v v0 v1 v2 => ?_, ?_⟩
    · rw [rd_plusL ha.len v0 v1]
      have h1 := ha.nonneg v v0 v1 v2
      have h2 := (ha.bd g) v v0 (by have := ha.len; omega)
      have h3 := hbn v v0 v1 v2
      have h4 := hbb v v0 (by omega)
      omega
    · rw [rd_plusL ha.len g.hq.1 g.hq.2, ha.at_q, hbq]
      rfl
  obtain ⟨s, h1, h2, h3, h4⟩ := settleS_ok g hpre
  have hv : ∀ v : Int, 0 ≤ v → v < n → v ≠ q → rd (settleS n es q (plusL a b)).1 v = rd (plusL a b) v - lap es s v := by
    intro v v0 v1 v2
    have := h3.2 v v0 v1
    simp only [if_neg v2] at this
    exact this
  have hnf : NoForb n es q (rd (plusL a b)) := ha.noForb.more fun v v0 v1 v2 => by
    rw [rd_plusL ha.len v0 v1]
    have := hbn v v0 v1 v2
    omega
  refine ⟨⟨h3.1, ?_, (hnf.legal g.hes h1).congr hv, fun v v0 v1 v2 => by rw [hv v v0 v1 v2]; exact h2 v v0 v1 v2, fun v v0 v1 v2 => ?_⟩, ⟨s, hv⟩⟩
  · have := h3.2 q g.hq.1 g.hq.2
    simp only [if_true] at this
    exact this
  · rw [hv v v0 v1 v2]
    exact h1.keeps g.hes (fun w w0 w1 w2 => (hpre.bd w w0 w1 w2).1) v v0 v1 v2
theorem RecL.pOk {n : Nat} {es : List E} {q : Int} (g : Gr n es q) (hg : GOk (n : Int) es) {c : List Int} (h : RecL n es q c) : pOk n es c q = true := sOk_pOk (h.sOk g hg)
theorem RecL.plus_pOk {n : Nat} {es : List E} {q : Int} (g : Gr n es q) (hg : GOk (n : Int) es) {a b : List Int} (ha : RecL n es q a) (hb : RecL n es q b) : Cf.pOk n es (plusL a b) q = true := by
  refine pile_of g hg (by rw [plusL_len]; exact ha.len) ?_ (fun v v0 v1 v2 => ?_) ((plusL_bd (by rw [ha.len, hb.len]) (ha.bd g) (hb.bd g)).mono (by omega))
  · rw [rd_plusL ha.len g.hq.1 g.hq.2, ha.at_q, hb.at_q]
    rfl
  · rw [rd_plusL ha.len v0 v1]
    have := ha.nonneg v v0 v1 v2
    have := hb.nonneg v v0 v1 v2
    omega
/-- Adding and stabilizing. -/
noncomputable def addR (n : Nat) (es : List E) (q : Int) (a b : List Int) : List Int := (settleS n es q (plusL a b)).1
theorem addR_ok {n : Nat} {es : List E} {q : Int} (g : Gr n es q) {a b : List Int} (ha : RecL n es q a) (hb : RecL n es q b) : RecL n es q (addR n es q a b) ∧ Off n es q (plusL a b) (addR n es q a b) :=
  ha.settle g hb.len hb.at_q hb.nonneg ((hb.bd g).mono (by omega))
theorem sumPO_eq {n : Nat} {es : List E} {q : Int} (g : Gr n es q) (hg : GOk (n : Int) es) {a b : List Int} (ha : RecL n es q a) (hb : RecL n es q b) : sumPO (n : Int) es a b q = (addR n es q a b, true) := by
  unfold sumPO
  rw [ha.pOk g hg, hb.pOk g hg, ha.plus_pOk g hg hb]
  rfl
theorem rd_zeros (n : Nat) (v : Int) : rd (List.replicate n (0 : Int)) v = 0 := rd_replicate n v
/-- The identity. -/
theorem idR {n : Nat} {es : List E} {q : Int} (g : Gr n es q) (hg : GOk (n : Int) es) {a : List Int} (ha : RecL n es q a) : addR n es q a (classL n es q (List.replicate n 0)) = a := by
  obtain ⟨he, hoe⟩ := classL_rec g hg (p := List.replicate n 0) (by simp) (Bd.zeros n)
  obtain ⟨hx, hox⟩ := addR_ok g ha he
  refine hx.unique g ha ?_
  have h1 : Off n es q (plusL a (List.replicate n 0)) (plusL a (classL n es q (List.replicate n 0))) := Off.add ha.len ha.len (Off.of fun _ _ _ => rfl) hoe
  have h2 : Off n es q a (plusL a (List.replicate n 0)) := Off.of fun v v0 v1 => by rw [rd_plusL ha.len v0 v1, rd_zeros]; omega
  exact ((h2.trans h1).trans hox).symm
/-- The inverse. -/
theorem invR {n : Nat} {es : List E} {q : Int} (g : Gr n es q) (hg : GOk (n : Int) es) {a : List Int} (ha : RecL n es q a) : RecL n es q (classL n es q (negL a)) ∧ addR n es q a (classL n es q (negL a)) = classL n es q (List.replicate n 0) := by
  obtain ⟨he, hoe⟩ := classL_rec g hg (p := List.replicate n 0) (by simp) (Bd.zeros n)
  obtain ⟨hi, hoi⟩ := classL_rec g hg (p := negL a) (by rw [negL_len]; exact ha.len) ((negL_bd (ha.bd g)).mono (by omega))
  obtain ⟨hx, hox⟩ := addR_ok g ha hi
  refine ⟨hi, hx.unique g he ?_⟩
  have h1 : Off n es q (plusL a (negL a)) (plusL a (classL n es q (negL a))) := Off.add ha.len ha.len (Off.of fun _ _ _ => rfl) hoi
  have h2 : Off n es q (List.replicate n 0) (plusL a (negL a)) := Off.of fun v v0 v1 => by rw [rd_plusL ha.len v0 v1, rd_negL ha.len v0 v1, rd_zeros]; omega
  exact ((hoe.symm.trans h2).trans (h1.trans hox)).symm
/-- What is added is taken away by the inverse. -/
theorem backR {n : Nat} {es : List E} {q : Int} (g : Gr n es q) (hg : GOk (n : Int) es) {a b : List Int} (ha : RecL n es q a) (hb : RecL n es q b) : addR n es q (addR n es q a b) (classL n es q (negL a)) = b := by
  obtain ⟨hi, hoi⟩ := classL_rec g hg (p := negL a) (by rw [negL_len]; exact ha.len) ((negL_bd (ha.bd g)).mono (by omega))
  obtain ⟨hs, hos⟩ := addR_ok g ha hb
  obtain ⟨hx, hox⟩ := addR_ok g hs hi
  refine hx.unique g hb ?_
  have hpl : (plusL a b).length = n := by rw [plusL_len]; exact ha.len
  have h1 : Off n es q (plusL (plusL a b) (negL a)) (plusL (addR n es q a b) (classL n es q (negL a))) := Off.add hpl hs.len hos hoi
  have h2 : Off n es q b (plusL (plusL a b) (negL a)) := Off.of fun v v0 v1 => by rw [rd_plusL hpl v0 v1, rd_plusL ha.len v0 v1, rd_negL ha.len v0 v1]; omega
  exact ((h2.trans h1).trans hox).symm
end Go.Proofs.Ytgobnfeahffnaaa.Cf
end

section
namespace Go.Proofs.Ytgobnfeahffnaaa.Cf
set_option linter.unusedVariables false
set_option linter.unusedSimpArgs false
open Go.RowKit Go.Proofs.YtgobnfeahffnaaaW.PrintWords Go.Proofs.Ytgobnfeahffnaaa.P
theorem Pl.pOk {n : Nat} {es : List E} {q : Int} (g : Gr n es q) (hg : GOk (n : Int) es) {p : List Int} (h : Pl n q p) : pOk n es p q = true :=
  pile_of g hg h.len h.hq (fun v v0 v1 _ => (h.bd6 v v0 v1).1) (fun v v0 v1 => by have := h.bd6 v v0 (by have := h.len; omega); omega)
theorem recuO_eq {n : Nat} {es : List E} {q : Int} (g : Gr n es q) (hg : GOk (n : Int) es) {p : List Int} (h : Pl n q p) : RecL n es q (classL n es q p) ∧ recuO n es p q = (classL n es q p, true) := by
  refine ⟨(classL_rec g hg h.len (fun v v0 v1 => by have := h.bd6 v v0 (by have := h.len; omega); omega)).1, ?_⟩
  unfold recuO
  rw [if_pos (h.pOk g hg)]
  rfl
theorem law_FnRecurrent (l : List Int) (wl : SL (Wf .u8) l) : Ep (fun k => laws_FnRecurrent.f k l) (· = true) := by
  simp only [laws_FnRecurrent.f]
  refine Ep.ite (fun _ => Ep.now rfl) (fun hc => ?_)
  have hb : l.length ≤ 1048576 := by omega
  refine Ep.bind (makeGraph l hb) ?_
  rintro ⟨n', es⟩ ⟨n, hn, h2, h5, hg⟩
  dsimp only at hn hg ⊢
  subst hn
  refine Ep.bind (makeNum l hb 60 (by omega)) ?_
  rintro t ⟨t0, t1⟩
  refine Ep.neg (by omega) ?_
  have hq' : 0 ≤ Int.tmod t n ∧ Int.tmod t n < n := ⟨Int.tmod_nonneg _ t0, Int.tmod_lt_of_pos _ (by omega)⟩
  generalize Int.tmod t n = q at hq' ⊢
  have g : Gr n es q := Gr.of hg hq'
  have hel : es.length ≤ 1048576 := by have := g.hel; omega
  have len : ∀ {c : List Int}, RecL n es q c → c.length ≤ 1048576 := fun h => by have := h.len; omega
  refine Ep.bind (makePile l hb 20 (by omega) (by omega) hq' es) ?_
  intro p hp
  obtain ⟨ha, ea⟩ := recuO_eq g hg hp
  refine Ep.bind (P := (· = (classL n es q p, true))) ((implRecu _ es p q (by have := hp.len; omega)).mono (by rintro _ rfl; exact ea)) ?_
  rintro _ rfl
  refine Ep.bind (makePile l hb 30 (by omega) (by omega) hq' es) ?_
  intro p2 hp2
  obtain ⟨hb2, eb⟩ := recuO_eq g hg hp2
  refine Ep.bind (P := (· = (classL n es q p2, true))) ((implRecu _ es p2 q (by have := hp2.len; omega)).mono (by rintro _ rfl; exact eb)) ?_
  rintro _ rfl
  have he := (classL_rec g hg (p := List.replicate n 0) (by simp) (Bd.zeros n)).1
  refine Ep.bind (P := (· = (classL n es q (List.replicate n 0), true))) ((implIdP _ es q (by simp [Wf, Lit.wf, IntKind.min, IntKind.max, IntKind.signed, IntKind.bits]; omega)).mono (by
    rintro _ rfl
    unfold idPO
    rw [if_pos (by rw [gOk_iff.2 hg]; simpa using hq')]
    rfl)) ?_
  rintro _ rfl
  dsimp only
  generalize classL n es q p = a at ha ⊢
  generalize classL n es q p2 = b at hb2 ⊢
  obtain ⟨hi, ei⟩ := invR g hg ha
  have ee := idR g hg ha
  have eb' := backR g hg ha hb2
  have hs := (addR_ok g ha hb2).1
  generalize classL n es q (List.replicate n 0) = e at he ei ee ⊢
  refine Ep.bind (P := (· = (classL n es q (negL a), true))) ((implInvP _ es a q hel (len ha)).mono (by
    rintro _ rfl
    unfold invPO
    rw [if_pos (ha.recB g hg)]
    rfl)) ?_
  rintro _ rfl
  dsimp only
  generalize classL n es q (negL a) = i at hi ei eb' ⊢
  refine Ep.bind (P := (· = (addR n es q a b, true))) ((implSumP _ es a b q (len ha) (len hb2)).mono (by rintro _ rfl; exact sumPO_eq g hg ha hb2)) ?_
  rintro _ rfl
  dsimp only
  generalize addR n es q a b = s at hs eb' ⊢
  refine Ep.pos rfl (Ep.pos rfl (Ep.pos rfl (Ep.pos rfl (Ep.pos rfl ?_))))
  refine Ep.bind (P := (· = true)) ((implRecur _ es a q hel (len ha)).mono (by rintro _ rfl; exact ha.recB g hg)) ?_
  rintro _ rfl
  refine Ep.pos rfl (Ep.bind (P := (· = true)) ((implRecur _ es e q hel (len he)).mono (by rintro _ rfl; exact he.recB g hg)) ?_)
  rintro _ rfl
  refine Ep.pos rfl (Ep.bind (P := (· = true)) ((implRecur _ es s q hel (len hs)).mono (by rintro _ rfl; exact hs.recB g hg)) ?_)
  rintro _ rfl
  refine Ep.up ?_
  simp only [laws_FnRecurrent.j0]
  refine Ep.neg (by simp) ?_
  refine Ep.bind (P := (· = (addR n es q a e, true))) ((implSumP _ es a e q (len ha) (len he)).mono (by rintro _ rfl; exact sumPO_eq g hg ha he)) ?_
  rintro _ rfl
  refine Ep.bind (P := (· = (addR n es q a i, true))) ((implSumP _ es a i q (len ha) (len hi)).mono (by rintro _ rfl; exact sumPO_eq g hg ha hi)) ?_
  rintro _ rfl
  refine Ep.bind (P := (· = (addR n es q s i, true))) ((implSumP _ es s i q (len hs) (len hi)).mono (by rintro _ rfl; exact sumPO_eq g hg hs hi)) ?_
  rintro _ rfl
  dsimp only
  rw [ee, ei, eb']
  refine Ep.pos rfl (Ep.pos rfl (Ep.pos rfl ?_))
  refine Ep.bind (same_yes rfl (len ha)) ?_
  rintro _ rfl
  refine Ep.pos rfl (Ep.bind (same_yes rfl (len he)) ?_)
  rintro _ rfl
  refine Ep.pos rfl (Ep.bind (same_yes rfl (len hb2)) ?_)
  rintro _ rfl
  exact Ep.now rfl
end Go.Proofs.Ytgobnfeahffnaaa.Cf
end

section
namespace Go.Proofs.Ytgobnfeahffnaaa.Cf
set_option linter.unusedVariables false
set_option linter.unusedSimpArgs false
open Go.RowKit Go.ChangeShapes Go.WideShapes Go.Deep Go.Joins Go.Proofs.YtgobnfeahffnaaaW.PrintWords
section
variable {H : Type} {enc : TypeId × Value → H} {P : Program} {w : World} {base : Nat} {spare : Nat → Bool} {held : Bool}
/-- A slice, whatever its elements are, if each of them can be told. -/
theorem trod_C {α : Type} {d : Kd α} {Q : α → Prop} (hd : Inhabited α) {t e : TypeId} {fuel : Nat} {cs : List Value} {x : DataW H × List MemPlace} (ht : P.underlying t = some (.slice e)) (hsz : P.cellsOf e = d.sz)
    (hel : ∀ (n : Nat) (cs : List Value) (y : DataW H × List MemPlace), DataW.trod enc P w base spare held n e cs = some y → ∃ a : α, d.K w a cs ∧ Q a)
    (h : DataW.trod enc P w base spare held fuel t cs = some x) : ∃ A len cap xs, cs = [.slice A len cap] ∧ xs.length = len ∧ len ≤ cap ∧ Kd.C d w A len xs ∧ SL Q xs := by
  rcases open_slice ht h with ⟨rfl, _⟩ | ⟨a, len, cap, m, n, D, Pl, rfl, _, hl, hm, hmm, _, hx⟩
  · exact ⟨none, 0, 0, [], rfl, rfl, Nat.le_refl _, ⟨rfl, by omega, fun hn => by omega⟩, by simp, fun x hx => by cases hx⟩
  · have hlm : len ≤ m := by rw [hmm]; split <;> omega
    obtain ⟨X, hX⟩ := choose_lt (α := α) (n := len) (p := fun i z => Q z ∧ ∃ c, c.length = d.sz ∧ d.K w z c ∧ ∀ j u, c[j]? = some u → w.cell? (a.add (i * d.sz + j)) = some u) (fun i hi => by
      obtain ⟨cs', h1, h2⟩ := hx i (by omega)
      obtain ⟨z, hz, hq⟩ := hel n cs' _ h2
      obtain ⟨_, hlen, hc⟩ := World.cells?_some h1
      refine ⟨z, hq, cs', by rw [hlen, hsz], hz, fun j u hj => ?_⟩
      have hjl : j < cs'.length := by
        apply Classical.byContradiction
        intro hc
        rw [List.getElem?_eq_none (by omega)] at hj
        cases hj
      have := hc j (by omega)
      rw [Deep.add_add, hsz] at this
      rw [this, hj])
    refine ⟨some a, len, cap, (List.range len).map X, rfl, by simp, hl, ⟨by simp, ?_, fun _ => ⟨a, rfl, fun j p hj => ?_⟩⟩, by simp; unfold maxLen at hm; omega, fun x hx => ?_⟩
    · unfold maxLen at hm
      omega
    · have hjl : j < len := by
        apply Classical.byContradiction
        intro hc
        rw [List.getElem?_eq_none (by simp; omega)] at hj
        cases hj
      have : p = X j := by
        rw [List.getElem?_eq_getElem (by simpa using hjl)] at hj
        simpa using hj.symm
      subst this
      exact (hX j hjl).2
    · obtain ⟨i, hi, rfl⟩ := List.mem_map.1 hx
      exact (hX i (List.mem_range.1 hi)).1
theorem el_int {k : IntKind} {e : TypeId} (he : P.underlying e = some (.int k)) : ∀ (n : Nat) (cs : List Value) (y : DataW H × List MemPlace), DataW.trod enc P w base spare held n e cs = some y → ∃ a : Int, (Kd.int k).K w a cs ∧ Wf k a := by
  intro n cs y h
  obtain ⟨a, rfl, _, hw⟩ := DataW.trod_int he h
  exact ⟨a, rfl, hw⟩
/-- A slice that comes in. -/
theorem arg_slice {α : Type} {d : Kd α} {Q : α → Prop} (hd : Inhabited α) {t e : TypeId} {a : Option Addr} {len cap : Nat} {x : DataW H} {ps : List MemPlace} (ht : P.underlying t = some (.slice e)) (hsz : P.cellsOf e = d.sz)
    (hel : ∀ (n : Nat) (cs : List Value) (y : DataW H × List MemPlace), DataW.trod enc P w base spare held n e cs = some y → ∃ a : α, d.K w a cs ∧ Q a)
    (h : DataW.Trod enc P w base spare held t (.slice a len cap) x ps) : ∃ xs : List α, xs.length = len ∧ len ≤ cap ∧ Kd.C d w a len xs ∧ SL Q xs := by
  obtain ⟨fuel, hf⟩ := h
  obtain ⟨A, l, c, xs, hcs, hl, hc, hC, hq⟩ := trod_C hd ht hsz hel hf
  simp [Value.cells] at hcs
  obtain ⟨rfl, rfl, rfl⟩ := hcs
  exact ⟨xs, hl, hc, hC, hq⟩
end
end Go.Proofs.Ytgobnfeahffnaaa.Cf
end

section
namespace Go.Proofs.Ytgobnfeahffnaaa.Cf
theorem and2 {a b : Bool} (h : a = true) (k : b = true) : (a && b) = true := by rw [h, k]; rfl
theorem iniS : Try.prog.initOrder.toList = ['h', 'a', 'r', 'n', 'e', 's', 's', ' ', '8', '5', '5', '5', '5', '4', '9', '6', '9', 'c', 'f', '8', '4', 'a', '9', '0', '1', '2', '7', 'f', '4', '7', '3', '1', '9', 'b', '4', 'd', '8', 'a', 'a', '0', 'f', 'f', '0', 'e', 'a', '8', '9', '4', '2', '2', '1', '3', '3', '4', '0', '4', '7', '0', '2', '9', 'f', 'f', 'd', 'b', '6', '8', '2', '7', '9', '3', '9', '9', ' ', 'c', 'u', 't', ' ', 'a', 't', ' ', 'l', 'o', 'o', 'p', '.', 'e', 'x', 'a', 'm', 'p', 'l', 'e', '/', 'g', '0', '0', '8', '4', '1', '/', 'l', 'a', 'w', 's', '.', 'F', 'n', 'R', 'e', 'c', 'u', 'r', 'r', 'e', 'n', 't', ' ', 'l', 'o', 'o', 'p', '.', 'e', 'x', 'a', 'm', 'p', 'l', 'e', '/', 'g', '0', '0', '8', '4', '1', '/', 'l', 'a', 'w', 's', '.', 'F', 'n', 'A', 'b', 'e', 'l', 'i', 'a', 'n', ' ', 'l', 'o', 'o', 'p', '.', 'e', 'x', 'a', 'm', 'p', 'l', 'e', '/', 'g', '0', '0', '8', '4', '1', '/', 'l', 'a', 'w', 's', '.', 'F', 'n', 'E', 'x', 'a', 'c', 't', 'S', 'u', 'm', 'O', 'f', 'P', 'i', 'l', 'e', 's', ' ', 'l', 'o', 'o', 'p', '.', 'e', 'x', 'a', 'm', 'p', 'l', 'e', '/', 'g', '0', '0', '8', '4', '1', '/', 'l', 'a', 'w', 's', '.', 'F', 'n', 'E', 'x', 'a', 'c', 't', 'S', 'u', 'm', 'O', 'f', 'C', 'l', 'a', 's', 's', 'e', 's', ' ', 'l', 'o', 'o', 'p', '.', 'e', 'x', 'a', 'm', 'p', 'l', 'e', '/', 'g', '0', '0', '8', '4', '1', '/', 'l', 'a', 'w', 's', '.', 'F', 'n', 'E', 'x', 'a', 'c', 't', 'I', 'd', 'e', 'n', 't', 'i', 't', 'y', 'P', 'i', 'l', 'e', ' ', 'l', 'o', 'o', 'p', '.', 'e', 'x', 'a', 'm', 'p', 'l', 'e', '/', 'g', '0', '0', '8', '4', '1', '/', 'l', 'a', 'w', 's', '.', 'F', 'n', 'O', 'r', 'i', 'e', 'n', 't', 's'] := by
  have h : Try.prog.initOrder = String.ofList ['h', 'a', 'r', 'n', 'e', 's', 's', ' ', '8', '5', '5', '5', '5', '4', '9', '6', '9', 'c', 'f', '8', '4', 'a', '9', '0', '1', '2', '7', 'f', '4', '7', '3', '1', '9', 'b', '4', 'd', '8', 'a', 'a', '0', 'f', 'f', '0', 'e', 'a', '8', '9', '4', '2', '2', '1', '3', '3', '4', '0', '4', '7', '0', '2', '9', 'f', 'f', 'd', 'b', '6', '8', '2', '7', '9', '3', '9', '9', ' ', 'c', 'u', 't', ' ', 'a', 't', ' ', 'l', 'o', 'o', 'p', '.', 'e', 'x', 'a', 'm', 'p', 'l', 'e', '/', 'g', '0', '0', '8', '4', '1', '/', 'l', 'a', 'w', 's', '.', 'F', 'n', 'R', 'e', 'c', 'u', 'r', 'r', 'e', 'n', 't', ' ', 'l', 'o', 'o', 'p', '.', 'e', 'x', 'a', 'm', 'p', 'l', 'e', '/', 'g', '0', '0', '8', '4', '1', '/', 'l', 'a', 'w', 's', '.', 'F', 'n', 'A', 'b', 'e', 'l', 'i', 'a', 'n', ' ', 'l', 'o', 'o', 'p', '.', 'e', 'x', 'a', 'm', 'p', 'l', 'e', '/', 'g', '0', '0', '8', '4', '1', '/', 'l', 'a', 'w', 's', '.', 'F', 'n', 'E', 'x', 'a', 'c', 't', 'S', 'u', 'm', 'O', 'f', 'P', 'i', 'l', 'e', 's', ' ', 'l', 'o', 'o', 'p', '.', 'e', 'x', 'a', 'm', 'p', 'l', 'e', '/', 'g', '0', '0', '8', '4', '1', '/', 'l', 'a', 'w', 's', '.', 'F', 'n', 'E', 'x', 'a', 'c', 't', 'S', 'u', 'm', 'O', 'f', 'C', 'l', 'a', 's', 's', 'e', 's', ' ', 'l', 'o', 'o', 'p', '.', 'e', 'x', 'a', 'm', 'p', 'l', 'e', '/', 'g', '0', '0', '8', '4', '1', '/', 'l', 'a', 'w', 's', '.', 'F', 'n', 'E', 'x', 'a', 'c', 't', 'I', 'd', 'e', 'n', 't', 'i', 't', 'y', 'P', 'i', 'l', 'e', ' ', 'l', 'o', 'o', 'p', '.', 'e', 'x', 'a', 'm', 'p', 'l', 'e', '/', 'g', '0', '0', '8', '4', '1', '/', 'l', 'a', 'w', 's', '.', 'F', 'n', 'O', 'r', 'i', 'e', 'n', 't', 's'] := by kernel_rfl
  exact (congrArg String.toList h).trans String.toList_ofList
theorem iniW : behindMainWord (wordsSigns Try.prog.initOrder.toList) = [['c', 'u', 't'], ['a', 't'], ['l', 'o', 'o', 'p', '.', 'e', 'x', 'a', 'm', 'p', 'l', 'e', '/', 'g', '0', '0', '8', '4', '1', '/', 'l', 'a', 'w', 's', '.', 'F', 'n', 'R', 'e', 'c', 'u', 'r', 'r', 'e', 'n', 't'], ['l', 'o', 'o', 'p', '.', 'e', 'x', 'a', 'm', 'p', 'l', 'e', '/', 'g', '0', '0', '8', '4', '1', '/', 'l', 'a', 'w', 's', '.', 'F', 'n', 'A', 'b', 'e', 'l', 'i', 'a', 'n'], ['l', 'o', 'o', 'p', '.', 'e', 'x', 'a', 'm', 'p', 'l', 'e', '/', 'g', '0', '0', '8', '4', '1', '/', 'l', 'a', 'w', 's', '.', 'F', 'n', 'E', 'x', 'a', 'c', 't', 'S', 'u', 'm', 'O', 'f', 'P', 'i', 'l', 'e', 's'], ['l', 'o', 'o', 'p', '.', 'e', 'x', 'a', 'm', 'p', 'l', 'e', '/', 'g', '0', '0', '8', '4', '1', '/', 'l', 'a', 'w', 's', '.', 'F', 'n', 'E', 'x', 'a', 'c', 't', 'S', 'u', 'm', 'O', 'f', 'C', 'l', 'a', 's', 's', 'e', 's'], ['l', 'o', 'o', 'p', '.', 'e', 'x', 'a', 'm', 'p', 'l', 'e', '/', 'g', '0', '0', '8', '4', '1', '/', 'l', 'a', 'w', 's', '.', 'F', 'n', 'E', 'x', 'a', 'c', 't', 'I', 'd', 'e', 'n', 't', 'i', 't', 'y', 'P', 'i', 'l', 'e'], ['l', 'o', 'o', 'p', '.', 'e', 'x', 'a', 'm', 'p', 'l', 'e', '/', 'g', '0', '0', '8', '4', '1', '/', 'l', 'a', 'w', 's', '.', 'F', 'n', 'O', 'r', 'i', 'e', 'n', 't', 's']] := (congrArg (fun x => behindMainWord (wordsSigns x)) iniS).trans (by kernel_rfl)
theorem mk_cut {P : Program} {r : List (List Char)} (h : behindMainWord (wordsSigns P.initOrder.toList) = ['c', 'u', 't'] :: r) : P.make = some .cut := by
  unfold Program.make
  rw [h]
  rfl
theorem lf_cut {P : Program} {r : List (List Char)} (h : behindMainWord (wordsSigns P.initOrder.toList) = ['c', 'u', 't'] :: r) (k : (stripLifts liftWords (['c', 'u', 't'] :: r)).1 = []) : P.liftsFinal = false := by
  unfold Program.liftsFinal Program.headLifts
  rw [h]
  simp [k]
theorem en_cut {P : Program} {r : List (List Char)} (h : behindMainWord (wordsSigns P.initOrder.toList) = ['c', 'u', 't'] :: r) (k1 : (stripLifts liftWords (['c', 'u', 't'] :: r)).1 = []) (k2 : ((stripLifts liftWords (['c', 'u', 't'] :: r)).2.head? == some "cut".toList) = true) (h1 : P.laysLater = false) (h2 : P.bearsReflect = false) (h3 : P.doorFits [] = true) : P.mayEnter = true := by
  unfold Program.mayEnter
  rw [h]
  simp only [k1, k2, h1, h2, h3]
  simp
theorem make : Try.prog.make = some .cut := mk_cut iniW
theorem lifted : Try.prog.liftsFinal = false := lf_cut iniW (by kernel_rfl)
theorem enter : Try.prog.mayEnter = true := en_cut iniW (by kernel_rfl) (by kernel_rfl) (by kernel_rfl) (by kernel_rfl) (by kernel_rfl)
end Go.Proofs.Ytgobnfeahffnaaa.Cf
end

