/- A part of the proof of FnExactTreeOfParking. -/
import Derived.Test.YteokcodadpjepaaBFnExactTreeOfParking2
import Derived.Test.YteokcodadpjepaaBFnExactTreeOfParking1
import Derived.Test.YteokcodadpjepaaBFnExactTreeOfParking0
import Derived.Deep.LoopGhost
import Derived.Deep.Slices
import Derived.Lib.SmallJoins
import Derived.ChangeSame
import Derived.Test.YteokcodadpjepaaRows
import Derived.JoinedOf
import Derived.KernelRfl
section
namespace Go.Proofs.Yteokcodadpjepaa.Cf
set_option linter.unusedVariables false
set_option linter.unusedSimpArgs false
/-- The edges from v to a list of vertices. -/
def burnSum (es : List E) (b : List Int) (v : Int) : Int := (b.map (mult es v)).sum
inductive Burn (n : Nat) (es : List E) (d : Int → Int) (q : Int) : List Int → Prop
  | start : Burn n es d q [q]
  | step {b : List Int} {v : Int} : Burn n es d q b → 0 ≤ v → v < n → v ∉ b → d v < burnSum es b v → Burn n es d q (b ++ [v])
theorem Burn.ok {n : Nat} {es : List E} {d : Int → Int} {q : Int} {b : List Int} (hq : 0 ≤ q ∧ q < n) (h : Burn n es d q b) : b.Nodup ∧ (∀ v ∈ b, 0 ≤ v ∧ v < n) ∧ q ∈ b := by
  induction h with
  | start => exact ⟨by simp, fun v hv => by rw [List.mem_singleton.1 hv]; exact hq, by simp⟩
  | @step b v _ h0 h1 hv _ ih =>
    refine ⟨?_, fun x hx => ?_, List.mem_append_left _ ih.2.2⟩
    · rw [List.nodup_append]
      exact ⟨ih.1, by simp, fun a ha c hc => by
        rw [List.mem_singleton.1 hc]
        rintro rfl
        exact hv ha⟩
    · rcases List.mem_append.1 hx with hx | hx
      · exact ih.2.1 x hx
      · rw [List.mem_singleton.1 hx]
        exact ⟨h0, h1⟩
theorem Burn.len {n : Nat} {es : List E} {d : Int → Int} {q : Int} {b : List Int} (hq : 0 ≤ q ∧ q < n) (h : Burn n es d q b) : b.length ≤ n := nodup_len n b (h.ok hq).1 (h.ok hq).2.1
theorem sum_ind (x : Int) : ∀ (b : List Int), b.Nodup → (b.map (fun w => if x = w then (1 : Int) else 0)).sum = if x ∈ b then 1 else 0
  | [], _ => by simp
  | a :: r, h => by
    have ih := sum_ind x r (List.nodup_cons.1 h).2
    have hn := (List.nodup_cons.1 h).1
    simp only [List.map_cons, List.sum_cons, ih, List.mem_cons]
    by_cases e : x = a
    · subst e
      simp [hn]
    · simp [e]
theorem sum_zero (b : List Int) : (b.map (fun _ => (0 : Int))).sum = 0 := by
  induction b with
  | nil => rfl
  | cons a r ih => simp only [List.map_cons, List.sum_cons, ih]; rfl
theorem sum_add (b : List Int) (f g : Int → Int) : (b.map (fun w => f w + g w)).sum = (b.map f).sum + (b.map g).sum := by
  induction b with
  | nil => rfl
  | cons a r ih => simp only [List.map_cons, List.sum_cons, ih]; omega
/-- What does not burn takes as much as burns at its edges. -/
theorem burnSum_lap {n : Int} {es : List E} (hes : ∀ e ∈ es, EOk n e) {b : List Int} (hb : b.Nodup) {v : Int} (hv : v ∉ b) : burnSum es b v = lap es (ind (fun x => decide (x ∉ b))) v := by
  induction es with
  | nil =>
    unfold burnSum
    rw [lap_nil]
    exact sum_zero b
  | cons e r ih =>
    have ih := ih (fun x hx => hes x (List.mem_cons_of_mem _ hx))
    have hk := hes e List.mem_cons_self
    unfold EOk at hk
    have h1 : burnSum (e :: r) b v = (b.map (fun w => multE v w e)).sum + burnSum r b v := by
      unfold burnSum
      rw [← sum_add]
      congr 1
    rw [h1, ih, lap_cons]
    congr 1
    unfold lapE ind multE
    by_cases a : e.f0 = v
    · have c : ¬ e.f1 = v := by omega
      have key : (b.map (fun w => if (e.f0 = v ∧ e.f1 = w) ∨ (e.f0 = w ∧ e.f1 = v) then (1 : Int) else 0)).sum = if e.f1 ∈ b then 1 else 0 := by
        rw [← sum_ind e.f1 b hb]
        congr 1
        apply List.map_congr_left
        intro w _
        simp [a, c]
      rw [key, if_pos a, if_neg c, a]
      by_cases m : e.f1 ∈ b <;> simp [m, hv]
    · by_cases c : e.f1 = v
      · have key : (b.map (fun w => if (e.f0 = v ∧ e.f1 = w) ∨ (e.f0 = w ∧ e.f1 = v) then (1 : Int) else 0)).sum = if e.f0 ∈ b then 1 else 0 := by
          rw [← sum_ind e.f0 b hb]
          congr 1
          apply List.map_congr_left
          intro w _
          simp [a, c]
        rw [key, if_neg a, if_pos c, c]
        by_cases m : e.f0 ∈ b <;> simp [m, hv]
      · have key : (b.map (fun w => if (e.f0 = v ∧ e.f1 = w) ∨ (e.f0 = w ∧ e.f1 = v) then (1 : Int) else 0)).sum = 0 := by
          exact (congrArg List.sum (List.map_congr_left (g := fun _ => (0 : Int)) (fun w _ => by simp [a, c]))).trans (sum_zero b)
        rw [key, if_neg a, if_neg c]
        rfl
/-- A lesser set takes more. -/
theorem lap_ind_mono {es : List E} {S T : Int → Bool} {v : Int} (hv : S v = true) (hw : T v = true) (h : ∀ x, S x = true → T x = true) : lap es (ind T) v ≤ lap es (ind S) v := by
  apply sumE_le
  intro e _
  have h0 := h e.f0
  have h1 := h e.f1
  unfold lapE ind
  by_cases a : e.f0 = v
  · by_cases b : e.f1 = v
    · simp [a, b]
    · rw [if_pos a, if_pos a, if_neg b, if_neg b, a, hv, hw]
      cases hs : S e.f1 <;> cases ht : T e.f1 <;> simp_all
  · by_cases b : e.f1 = v
    · rw [if_neg a, if_neg a, if_pos b, if_pos b, b, hv, hw]
      cases hs : S e.f0 <;> cases ht : T e.f0 <;> simp_all
    · rw [if_neg a, if_neg a, if_neg b, if_neg b]
      exact Int.le_refl _
theorem Burn.meets {n : Nat} {es : List E} (hes : ∀ e ∈ es, EOk n e) {d : Int → Int} {q : Int} (hq : 0 ≤ q ∧ q < n) {b : List Int} (h : Burn n es d q b) {S : Int → Bool} (hS : S q = false) : (∀ v ∈ b, S v = false) ∨ ∃ v : Int, 0 ≤ v ∧ v < n ∧ S v = true ∧ d v < lap es (ind S) v := by
  induction h with
  | start => exact .inl (fun v hv => by rw [List.mem_singleton.1 hv]; exact hS)
  | @step b v hb h0 h1 hv hlt ih =>
    rcases ih with ih | ih
    · by_cases hx : S v = true
      · right
        refine ⟨v, h0, h1, hx, ?_⟩
        rw [burnSum_lap hes (hb.ok hq).1 hv] at hlt
        have := lap_ind_mono (es := es) (S := S) (T := fun x => decide (x ∉ b)) hx (by simpa using hv) (fun x hx => by
          simp only [decide_eq_true_eq]
          intro hm
          rw [ih x hm] at hx
          cases hx)
        omega
      · left
        intro x hm
        rcases List.mem_append.1 hm with hm | hm
        · exact ih x hm
        · rw [List.mem_singleton.1 hm]
          simpa using hx
    · exact .inr ih
/-- All burn: the divisor is reduced. -/
theorem Burn.red {n : Nat} {es : List E} (hes : ∀ e ∈ es, EOk n e) {d : Int → Int} {q : Int} (hq : 0 ≤ q ∧ q < n) {b : List Int} (h : Burn n es d q b) (hl : b.length = n) (hd : ∀ v : Int, 0 ≤ v → v < n → v ≠ q → 0 ≤ d v) : Red n es q d := by
  refine ⟨hd, fun S hS hx => ?_⟩
  rcases h.meets hes hq hS with hb | hb
  · exfalso
    obtain ⟨v, h0, h1, hv⟩ := hx
    have : v ∈ b := by
      apply Classical.byContradiction
      intro hn
      have := nodup_len n (v :: b) (List.nodup_cons.2 ⟨hn, (h.ok hq).1⟩) (fun x hx => by
        rcases List.mem_cons.1 hx with rfl | hx
        · exact ⟨h0, h1⟩
        · exact (h.ok hq).2.1 x hx)
      simp at this
      omega
    rw [hb v this] at hv
    cases hv
  · exact hb
theorem sumN_le_const {n : Nat} {f : Nat → Int} {c : Int} (h : ∀ i, i < n → f i ≤ c) : sumN n f ≤ n * c := by
  rw [← sumN_const]
  exact sumN_le h
theorem sumN_nonneg {n : Nat} {f : Nat → Int} (h : ∀ i, i < n → 0 ≤ f i) : 0 ≤ sumN n f := by
  have := sumN_le (n := n) (f := fun _ => 0) (g := f) h
  rw [sumN_zero] at this
  exact this
/-- Borrowing is toppling of what is missing. -/
def dual (es : List E) (d : Int → Int) (v : Int) : Int := val es v - 1 - d v
structure Sets (n : Nat) (es : List E) (q : Int) (d u : Int → Int) : Prop where
  pos : ∀ w, 0 ≤ u w
  at_q : u q = 0
  keeps : ∀ v : Int, 0 ≤ v → v < n → v ≠ q → 0 ≤ d v - lap es u v
theorem Sets.zero {n : Nat} {es : List E} {q : Int} {d : Int → Int} (h : ∀ v : Int, 0 ≤ v → v < n → v ≠ q → 0 ≤ d v) : Sets n es q d (fun _ => 0) where
  pos := fun _ => Int.le_refl _
  at_q := rfl
  keeps := fun v h0 h1 h2 => by
    rw [lap_const (c := 0) (fun _ _ => ⟨rfl, rfl⟩)]
    have := h v h0 h1 h2
    omega
/-- The first vertex from i on that burns, or -1. -/
def nextB (es : List E) (d : Int → Int) (b : List Int) : Nat → Nat → Int
  | 0, _ => -1
  | k + 1, i => if (i : Int) ∉ b ∧ d i < burnSum es b i then i else nextB es d b k (i + 1)
theorem nextB_ok (es : List E) (d : Int → Int) (b : List Int) : ∀ (k i : Nat), (nextB es d b k i = -1 ∧ ∀ j : Nat, i ≤ j → j < i + k → (j : Int) ∉ b → burnSum es b j ≤ d j) ∨ ((i : Int) ≤ nextB es d b k i ∧ nextB es d b k i < i + k ∧ nextB es d b k i ∉ b ∧ d (nextB es d b k i) < burnSum es b (nextB es d b k i))
  | 0, i => .inl ⟨rfl, fun j h0 h1 => by omega⟩
  | k + 1, i => by
    unfold nextB
    by_cases h : (i : Int) ∉ b ∧ d i < burnSum es b i
    · rw [if_pos h]
      exact .inr ⟨by omega, by omega, h.1, h.2⟩
    · rw [if_neg h]
      rcases nextB_ok es d b k (i + 1) with ⟨h1, h2⟩ | ⟨h1, h2, h3⟩
      · refine .inl ⟨h1, fun j h3 h4 h5 => ?_⟩
        by_cases e : j = i
        · subst e
          apply Classical.byContradiction
          intro hc
          exact h ⟨h5, by omega⟩
        · exact h2 j (by omega) (by omega) h5
      · exact .inr ⟨by omega, by omega, h3⟩
def burnW (n : Nat) (es : List E) (d : Int → Int) : Nat → List Int → List Int
  | 0, b => b
  | k + 1, b => if nextB es d b n 0 < 0 then b else burnW n es d k (b ++ [nextB es d b n 0])
def burnF (n : Nat) (es : List E) (d : Int → Int) (q : Int) : List Int := burnW n es d n [q]
def RedTo (n : Nat) (es : List E) (q : Int) (d x s : Int → Int) : Prop := Red n es q x ∧ s q = 0 ∧ ∀ v : Int, 0 ≤ v → v < n → x v = d v - lap es s v
end Go.Proofs.Yteokcodadpjepaa.Cf
end

section
namespace Go.Proofs.Yteokcodadpjepaa.Cf
set_option linter.unusedVariables false
set_option linter.unusedSimpArgs false
open Go.Proofs.YteokcodadpjepaaW.PrintWords
theorem rd_set {x : List Int} {i : Int} (h0 : 0 ≤ i) (h1 : i < x.length) (y : Int) {w : Int} (hw : 0 ≤ w) : rd (x.set i.toNat y) w = if w = i then y else rd x w := by
  obtain ⟨a, rfl⟩ := Int.eq_ofNat_of_zero_le h0
  obtain ⟨b, rfl⟩ := Int.eq_ofNat_of_zero_le hw
  simp only [Int.ofNat_eq_natCast, Int.toNat_natCast, rd_nat, List.getD_eq_getElem?_getD] at *
  by_cases c : b = a
  · subst c
    rw [List.getElem?_set_self (by omega), if_pos rfl]
    rfl
  · rw [List.getElem?_set_ne (fun y => c y.symm), if_neg (by omega)]
/-- A list's numbers lie between -B and B. -/
def Bd (x : List Int) (B : Int) : Prop := ∀ w : Int, 0 ≤ w → w < x.length → -B ≤ rd x w ∧ rd x w ≤ B
theorem Bd.mono {x : List Int} {B B' : Int} (h : Bd x B) (hB : B ≤ B') : Bd x B' := fun w h0 h1 => by have := h w h0 h1; omega
theorem Bd.of60 {p : List Int} (h : ∀ x ∈ p, -60 ≤ x ∧ x ≤ 60) : Bd p 60 := fun w h0 h1 => by
  obtain ⟨i, rfl⟩ := Int.eq_ofNat_of_zero_le h0
  have hi : i < p.length := by omega
  rw [rd_get hi]
  exact h _ (List.getElem_mem hi)
/-- The list c tells s on the first n numbers. -/
def Rep (n : Nat) (c : List Int) (s : Int → Int) : Prop := c.length = n ∧ ∀ w : Int, 0 ≤ w → w < n → rd c w = s w
theorem Rep.set {n : Nat} {c : List Int} {s : Int → Int} (h : Rep n c s) {v : Int} (h0 : 0 ≤ v) (h1 : v < n) (y : Int) : Rep n (c.set v.toNat y) (fun w => if w = v then y else s w) := by
  refine ⟨by rw [List.length_set]; exact h.1, fun w w0 w1 => ?_⟩
  rw [rd_set h0 (by rw [h.1]; exact h1) y w0, h.2 w w0 w1]
theorem rd_replicate (n : Nat) (v : Int) : rd (List.replicate n (0 : Int)) v = 0 := by
  unfold rd
  rw [List.getD_eq_getElem?_getD]
  by_cases h : v.toNat < n
  · rw [List.getElem?_replicate_of_lt h]; rfl
  · rw [List.getElem?_eq_none (by simp; omega)]; rfl
theorem Rep.zero (n : Nat) : Rep n (List.replicate n (0 : Int)) (fun _ => 0) := ⟨by simp, fun w _ _ => rd_replicate n w⟩
def Reduced (n : Nat) (es : List E) (q : Int) (d : List Int) (r : List Int × List Int) : Prop := r.1.length = n ∧ r.2.length = n ∧ RedTo n es q (rd d) (rd r.1) (rd r.2)
/-- The first vertex in debt, from one on; or -1. -/
def debtF (q : Int) (p : List Int) : Nat → Nat → Int
  | 0, _ => -1
  | d + 1, i => if (i : Int) = q then debtF q p d (i + 1) else if rd p i < 0 then i else debtF q p d (i + 1)
theorem debtF_ok (q : Int) (p : List Int) : ∀ (d i : Nat), (debtF q p d i = -1 ∧ ∀ j : Nat, i ≤ j → j < i + d → (j : Int) ≠ q → 0 ≤ rd p (j : Int)) ∨ ((i : Int) ≤ debtF q p d i ∧ debtF q p d i < i + d ∧ debtF q p d i ≠ q ∧ rd p (debtF q p d i) < 0)
  | 0, i => .inl ⟨rfl, fun j h0 h1 => by omega⟩
  | d + 1, i => by
    unfold debtF
    have ih := debtF_ok q p d (i + 1)
    by_cases h : (i : Int) = q
    · rw [if_pos h]
      rcases ih with ⟨h1, h2⟩ | ⟨h1, h2, h3⟩
      · refine .inl ⟨h1, fun j h3 h4 h5 => ?_⟩
        by_cases e : j = i
        · subst e; exact absurd h h5
        · exact h2 j (by omega) (by omega) h5
      · exact .inr ⟨by omega, by omega, h3⟩
    · rw [if_neg h]
      by_cases h2 : rd p i < 0
      · rw [if_pos h2]
        exact .inr ⟨by omega, by omega, h, h2⟩
      · rw [if_neg h2]
        rcases ih with ⟨h1, h3⟩ | ⟨h1, h3, h4⟩
        · refine .inl ⟨h1, fun j k1 k2 k3 => ?_⟩
          by_cases e : j = i
          · subst e; omega
          · exact h3 j (by omega) (by omega) k3
        · exact .inr ⟨by omega, by omega, h4⟩
theorem debt_neg {n : Nat} {q : Int} {p : List Int} (hp : p.length = n) (h : debtF q p p.length 0 < 0) : ∀ v : Int, 0 ≤ v → v < n → v ≠ q → 0 ≤ rd p v := by
  intro v h0 h1 hv
  rcases debtF_ok q p p.length 0 with ⟨_, h2⟩ | ⟨h2, _⟩
  · have := h2 v.toNat (by omega) (by omega) (by omega)
    have e : ((v.toNat : Nat) : Int) = v := by omega
    rw [e] at this
    exact this
  · omega
/-- The edges to what burns, counted over all vertices. -/
theorem sum_pick (f : Int → Int) (n : Nat) : ∀ (b : List Int), b.Nodup → (∀ v ∈ b, 0 ≤ v ∧ v < n) → sumN n (fun w => if (w : Int) ∈ b then f w else 0) = (b.map f).sum
  | [], _, _ => by simp [sumN_zero]
  | a :: r, hb, hr => by
    have ha := hr a List.mem_cons_self
    rw [List.map_cons, List.sum_cons, ← sum_pick f n r (List.nodup_cons.1 hb).2 (fun v hv => hr v (List.mem_cons_of_mem _ hv)), ← sumN_one (n := n) a.toNat (by omega) (f a), ← sumN_add]
    apply sumN_congr
    intro i hi
    by_cases e : i = a.toNat
    · have e' : (i : Int) = a := by omega
      rw [if_pos e, e', if_pos List.mem_cons_self, if_neg (List.nodup_cons.1 hb).1]
      omega
    · have e' : (i : Int) ≠ a := by omega
      rw [if_neg e]
      simp [e']
end Go.Proofs.Yteokcodadpjepaa.Cf
end

section
namespace Go.Proofs.Yteokcodadpjepaa.P
open Go.RowKit Go.Proofs.YteokcodadpjepaaW.PrintWords Go.Proofs.YteokcodadpjepaaW.PrintLast Go.Proofs.YteokcodadpjepaaW.PrintMore
attribute [local go_sem] max2_int min2_int max_two min_two max_three min_three max_four min_four
set_option linter.unusedVariables false
set_option linter.unusedSimpArgs false
def impl_copyInts.f (l0 : List Int) : Option (List Int) := if ([] : List Int).length + l0.length < 17592186044416 then (some (([] : List Int) ++ l0)) else (none)
end Go.Proofs.Yteokcodadpjepaa.P
end

section
namespace Go.Proofs.Yteokcodadpjepaa.Cf
set_option linter.unusedVariables false
set_option linter.unusedSimpArgs false
open Go.RowKit Go.Proofs.YteokcodadpjepaaW.PrintWords Go.Proofs.Yteokcodadpjepaa.P
/-- Where the graph is valid. -/
structure Gr (n : Nat) (es : List E) (q : Int) : Prop where
  n1 : 1 ≤ n
  n6 : n ≤ 6
  hes : ∀ e ∈ es, EOk n e
  hel : es.length ≤ 12
  hj : Joined n es
  hq : 0 ≤ q ∧ q < n
theorem Gr.of {n : Nat} {es : List E} {q : Int} (h : GOk (n : Int) es) (hq : 0 ≤ q ∧ q < n) : Gr n es q := by
  obtain ⟨h1, _, h3⟩ := h
  unfold EsOk at h1
  exact ⟨by omega, by omega, h1.2.2.2, h1.2.2.1, h3, hq⟩
end Go.Proofs.Yteokcodadpjepaa.Cf
end

section
namespace Go.Proofs.Yteokcodadpjepaa.Cf
set_option linter.unusedVariables false
set_option linter.unusedSimpArgs false
open Go.RowKit Go.Proofs.YteokcodadpjepaaW.PrintWords Go.Proofs.YteokcodadpjepaaW.PrintMore Go.Proofs.Yteokcodadpjepaa.P
theorem multE_alt {n : Int} {e : E} (h : EOk n e) {a b : Int} (hab : a ≠ b) : multE a b e = if e.f0 = mn a b ∧ e.f1 = mx a b then 1 else 0 := by
  unfold EOk at h
  unfold multE mn mx
  by_cases c : b < a
  · rw [if_pos c, if_neg (show ¬ a < b by omega)]
    by_cases x : e.f0 = b ∧ e.f1 = a
    · rw [if_pos (.inr x), if_pos x]
    · rw [if_neg (by omega), if_neg x]
  · rw [if_neg c, if_pos (show a < b by omega)]
    by_cases x : e.f0 = a ∧ e.f1 = b
    · rw [if_pos (.inl x), if_pos x]
    · rw [if_neg (by omega), if_neg x]
theorem mult_self {n : Int} {es : List E} (hes : ∀ e ∈ es, EOk n e) (a : Int) : mult es a a = 0 := by
  apply sumE_zero
  intro e he
  have h := hes e he
  unfold EOk at h
  unfold multE
  rw [if_neg (by omega)]
theorem mult_drop {es : List E} {i : Nat} (h : i < es.length) (a b : Int) : mult (es.drop i) a b = multE a b es[i] + mult (es.drop (i + 1)) a b := by
  rw [List.drop_eq_getElem_cons h]
  exact sumE_cons _ _ _
theorem specMult_l0 (n : Int) (es : List E) (hes : ∀ e ∈ es, EOk n e) (hel : es.length ≤ 12) (a b : Int) (hab : a ≠ b) : ∀ (d i : Nat) (c : Int), i + d = es.length → 0 ≤ c → c ≤ i → Ep (fun k => spec_Multiplicity.l0 k a b c es (es.length : Int) (i : Int)) (· = c + mult (es.drop i) a b) := by
  intro d
  induction d with
  | zero =>
    intro i c hi h0 h1
    refine Ep.up ?_
    simp only [spec_Multiplicity.l0]
    refine Ep.neg (by omega) (Ep.now ?_)
    rw [List.drop_of_length_le (by omega)]
    simp [mult, sumE]
  | succ d ih =>
    intro i c hi h0 h1
    have hlt : i < es.length := by omega
    have hk := hes _ (List.getElem_mem hlt)
    refine Ep.up ?_
    simp only [spec_Multiplicity.l0]
    refine Ep.pos (by omega) (Ep.pos (by omega) (Ep.pos (by omega) ?_))
    rw [rdE_get hlt, wrap_succ (by omega), wrap_id (x := c + 1) (by omega) (by omega), mult_drop hlt, multE_alt hk hab]
    refine Ep.ite (fun h => Ep.ite (fun h2 => ?_) (fun h2 => ?_)) (fun h => ?_)
    · rw [if_pos ⟨h, h2⟩]
      refine (ih (i + 1) (c + 1) (by omega) (by omega) (by omega)).mono ?_
      rintro _ rfl
      omega
    · rw [if_neg (fun x => h2 x.2)]
      refine (ih (i + 1) c (by omega) (by omega) (by omega)).mono ?_
      rintro _ rfl
      omega
    · rw [if_neg (fun x => h x.1)]
      refine (ih (i + 1) c (by omega) (by omega) (by omega)).mono ?_
      rintro _ rfl
      omega
theorem l02Vert_eq (n : Int) (es : List E) (v : Int) : spec_l02Vert.f n es v = some (decide (0 ≤ v ∧ v < n)) := by
  unfold spec_l02Vert.f
  by_cases h : v ≥ 0
  · rw [if_pos h]
    have : (0 ≤ v ∧ v < n) ↔ v < n := ⟨fun x => x.2, fun x => ⟨h, x⟩⟩
    simp only [this]
  · rw [if_neg h]
    have : ¬ (0 ≤ v ∧ v < n) := fun x => h x.1
    simp only [this, decide_false]
theorem specMult (n : Int) (es : List E) (hes : ∀ e ∈ es, EOk n e) (hel : es.length ≤ 12) (a b : Int) (ha : 0 ≤ a ∧ a < n) (hb : 0 ≤ b ∧ b < n) : Ep (fun k => spec_Multiplicity.f k n es a b) (· = mult es a b) := by
  simp only [spec_Multiplicity.f]
  refine Ep.bind0 (l02Vert_eq _ _ _) (Ep.pos (by simpa using ha) (Ep.bind0 (l02Vert_eq _ _ _) (Ep.pos (by simpa using hb) ?_)))
  refine Ep.up ?_
  simp only [spec_Multiplicity.j0]
  refine Ep.ite (fun h => Ep.now ?_) (fun h => ?_)
  · have : a = b := by simpa using h
    rw [this, mult_self hes]
  · have hab : a ≠ b := by simpa using h
    refine (specMult_l0 n es hes hel a b hab es.length 0 0 (by omega) (by omega) (by omega)).mono ?_
    rintro _ rfl
    simp
theorem implMult_l0 (n : Int) (es : List E) (hes : ∀ e ∈ es, EOk n e) (hel : es.length ≤ 12) (a b : Int) (hab : a ≠ b) : ∀ (d i : Nat) (c : Int), i + d = es.length → 0 ≤ c → c ≤ i → Ep (fun k => impl_Multiplicity.l0 k a b c es (es.length : Int) (i : Int)) (· = c + mult (es.drop i) a b) := by
  intro d
  induction d with
  | zero =>
    intro i c hi h0 h1
    refine Ep.up ?_
    simp only [impl_Multiplicity.l0]
    refine Ep.neg (by omega) (Ep.now ?_)
    rw [List.drop_of_length_le (by omega)]
    simp [mult, sumE]
  | succ d ih =>
    intro i c hi h0 h1
    have hlt : i < es.length := by omega
    have hk := hes _ (List.getElem_mem hlt)
    refine Ep.up ?_
    simp only [impl_Multiplicity.l0]
    refine Ep.pos (by omega) (Ep.pos (by omega) (Ep.pos (by omega) ?_))
    rw [rdE_get hlt, wrap_succ (by omega), wrap_id (x := c + 1) (by omega) (by omega), mult_drop hlt, multE_alt hk hab]
    refine Ep.ite (fun h => Ep.ite (fun h2 => ?_) (fun h2 => ?_)) (fun h => ?_)
    · rw [if_pos ⟨h, h2⟩]
      refine (ih (i + 1) (c + 1) (by omega) (by omega) (by omega)).mono ?_
      rintro _ rfl
      omega
    · rw [if_neg (fun x => h2 x.2)]
      refine (ih (i + 1) c (by omega) (by omega) (by omega)).mono ?_
      rintro _ rfl
      omega
    · rw [if_neg (fun x => h x.1)]
      refine (ih (i + 1) c (by omega) (by omega) (by omega)).mono ?_
      rintro _ rfl
      omega
theorem implMult (n : Int) (es : List E) (hes : ∀ e ∈ es, EOk n e) (hel : es.length ≤ 12) (a b : Int) (ha : 0 ≤ a ∧ a < n) (hb : 0 ≤ b ∧ b < n) : Ep (fun k => impl_Multiplicity.f k n es a b) (· = mult es a b) := by
  simp only [impl_Multiplicity.f]
  refine Ep.neg (by unfold mn; split <;> omega) (Ep.neg (by unfold mx; split <;> omega) ?_)
  refine Ep.up ?_
  simp only [impl_Multiplicity.j0]
  refine Ep.ite (fun h => Ep.now ?_) (fun h => ?_)
  · have : a = b := by simpa using h
    rw [this, mult_self hes]
  · have hab : a ≠ b := by simpa using h
    refine (implMult_l0 n es hes hel a b hab es.length 0 0 (by omega) (by omega) (by omega)).mono ?_
    rintro _ rfl
    simp
/-- The first place, counted from i; or -1. -/
def idxF (x : Int) : List Int → Nat → Int
  | [], _ => -1
  | a :: r, i => if x = a then i else idxF x r (i + 1)
theorem idxF_drop {l : List Int} {i : Nat} (h : i < l.length) (x : Int) (j : Nat) : idxF x (l.drop i) j = if x = l[i] then (j : Int) else idxF x (l.drop (i + 1)) (j + 1) := by
  rw [List.drop_eq_getElem_cons h]
  rfl
theorem idxF_mem (x : Int) : ∀ (l : List Int) (i : Nat), 0 ≤ idxF x l i ↔ x ∈ l
  | [], i => by simp [idxF]
  | a :: r, i => by
    unfold idxF
    by_cases h : x = a
    · rw [if_pos h, h]; simp
    · rw [if_neg h, idxF_mem x r (i + 1)]; simp [h]
theorem index_l0 (l : List Int) (x : Int) (hl : l.length ≤ 1048576) : ∀ (d i : Nat), i + d = l.length → Ep (fun k => slices_Index_int_int.l0 k l x (l.length : Int) (i : Int)) (· = idxF x (l.drop i) i) := by
  intro d
  induction d with
  | zero =>
    intro i hi
    refine Ep.up ?_
    simp only [slices_Index_int_int.l0]
    refine Ep.neg (by omega) (Ep.now ?_)
    rw [List.drop_of_length_le (by omega)]
    rfl
  | succ d ih =>
    intro i hi
    have hlt : i < l.length := by omega
    refine Ep.up ?_
    simp only [slices_Index_int_int.l0]
    refine Ep.pos (by omega) (Ep.pos (by omega) (Ep.pos (by omega) ?_))
    rw [rd_get hlt, wrap_succ (by omega), idxF_drop hlt]
    refine Ep.ite (fun h => Ep.now ?_) (fun h => ?_)
    · rw [if_pos h]
    · rw [if_neg h]
      exact ih (i + 1) (by omega)
theorem index_ok (l : List Int) (x : Int) (hl : l.length ≤ 1048576) : Ep (fun k => slices_Index_int_int.f k l x) (· = idxF x l 0) := by
  have := index_l0 l x hl l.length 0 (by omega)
  simp only [slices_Index_int_int.f]
  exact this
theorem contains_ok (l : List Int) (x : Int) (hl : l.length ≤ 1048576) : Ep (fun k => slices_Contains_int_int.f k l x) (· = decide (x ∈ l)) := by
  simp only [slices_Contains_int_int.f]
  refine Ep.bind (index_ok l x hl) ?_
  rintro _ rfl
  refine Ep.now ?_
  have := idxF_mem x l 0
  simp only [ge_iff_le, this]
theorem burnSum_bd {es : List E} (hel : es.length ≤ 12) (v : Int) : ∀ (b : List Int), 0 ≤ burnSum es b v ∧ burnSum es b v ≤ 12 * b.length
  | [] => by simp [burnSum]
  | a :: r => by
    have ih := burnSum_bd hel v r
    have h0 := mult_nonneg es v a
    have h1 := mult_le es v a
    unfold burnSum at ih ⊢
    rw [List.map_cons, List.sum_cons, List.length_cons]
    omega
/-- The list of truth values tells what burns. -/
def BRep (n : Nat) (x : List Bool) (b : List Int) : Prop := x.length = n ∧ ∀ w : Nat, w < n → rdOf false x (w : Int) = decide ((w : Int) ∈ b)
theorem BRep.push {n : Nat} {x : List Bool} {b : List Int} (h : BRep n x b) {v : Nat} (hv : v < n) : BRep n (x.set v true) (b ++ [(v : Int)]) := by
  refine ⟨by rw [List.length_set]; exact h.1, fun w hw => ?_⟩
  have := h.2 w hw
  simp only [rdOf, Int.toNat_natCast, List.getD_eq_getElem?_getD] at this ⊢
  by_cases e : v = w
  · subst e
    rw [List.getElem?_set_self (by have := h.1; omega)]
    simp
  · rw [List.getElem?_set_ne e, this]
    have : ¬ (w : Int) = v := by omega
    simp [this]
theorem BRep.start {n : Nat} {q : Int} (h0 : 0 ≤ q) (h1 : q < n) : BRep n ((List.replicate n false).set q.toNat true) [q] := by
  have h : BRep n (List.replicate n false) [] := ⟨by simp, fun w hw => by simp [rdOf, hw]⟩
  have := h.push (v := q.toNat) (by omega)
  have e : ((q.toNat : Nat) : Int) = q := by omega
  rw [e] at this
  exact this
theorem specBurn_l2 {n : Nat} {es : List E} {q : Int} (g : Gr n es q) (d : List Int) (hd : d.length = n) (b : List Int) (hok : b.Nodup ∧ ∀ v ∈ b, 0 ≤ v ∧ v < n) (x : List Bool) (hx : BRep n x b) (v : Nat) (hv : v < n) (next : Int) {Q : List Int → Prop}
    (hk : Ep (fun k => spec_l05Burn.l1 k d b x (if (v : Int) ∉ b ∧ rd d v < burnSum es b v then (v : Int) else next) ((v : Int) - 1) (n : Int) es) Q) :
    ∀ (dd i : Nat), i + dd = n → Ep (fun k => spec_l05Burn.l2 k d b x next (v : Int) (sumN i (fun w => if (w : Int) ∈ b then mult es v w else 0)) (i : Int) (n : Int) es) Q := by
  have hn := g.n6
  have hel := g.hel
  have hxl := hx.1
  have hbd : ∀ i, i ≤ n → 0 ≤ sumN i (fun w => if (w : Int) ∈ b then mult es v w else 0) ∧ sumN i (fun w => if (w : Int) ∈ b then mult es v w else 0) ≤ i * 12 := by
    intro i hi
    have hm : ∀ w : Nat, 0 ≤ (if (w : Int) ∈ b then mult es v w else 0) ∧ (if (w : Int) ∈ b then mult es v w else 0) ≤ 12 := by
      intro w
      have h0 := mult_nonneg es v w
      have h1 := mult_le es v w
      split <;> omega
    exact ⟨sumN_nonneg fun w _ => (hm w).1, sumN_le_const fun w _ => (hm w).2⟩
  intro dd
  induction dd with
  | zero =>
    intro i hi
    obtain rfl : i = n := by omega
    rw [sum_pick (mult es v) i b hok.1 hok.2]
    show Ep (fun k => spec_l05Burn.l2 k d b x next (v : Int) (burnSum es b v) (i : Int) (i : Int) es) Q
    refine Ep.up ?_
    simp only [spec_l05Burn.l2]
    rw [wrap_id (x := (v : Int) - 1) (by omega) (by omega)]
    refine Ep.neg (by omega) (Ep.pos (by omega) (Ep.pos (by omega) ?_))
    rw [hx.2 v hv]
    refine Ep.ite (fun h => ?_) (fun h => ?_)
    · have h' : (v : Int) ∈ b := by simpa using h
      rw [if_neg (fun y => y.1 h')] at hk
      exact hk
    · have h' : (v : Int) ∉ b := by simpa using h
      refine Ep.pos (by omega) (Ep.ite (fun h2 => ?_) (fun h2 => ?_))
      · rw [if_pos ⟨h', h2⟩] at hk
        exact hk
      · rw [if_neg (fun y => h2 y.2)] at hk
        exact hk
  | succ dd ih =>
    intro i hi
    have hb := hbd i (by omega)
    have hb1 := hbd (i + 1) (by omega)
    have ih' := ih (i + 1) (by omega)
    simp only [sumN] at ih' hb1
    refine Ep.up ?_
    simp only [spec_l05Burn.l2]
    refine Ep.pos (by omega) (Ep.pos (by omega) (Ep.pos (by omega) ?_))
    rw [hx.2 i (by omega), wrap_succ (by omega)]
    refine Ep.ite (fun h => ?_) (fun h => ?_)
    · have h' : (i : Int) ∈ b := by simpa using h
      rw [if_pos h'] at ih' hb1
      refine Ep.bind (specMult n es g.hes hel v i (by omega) (by omega)) ?_
      rintro _ rfl
      rw [wrap_id (by omega) (by omega)]
      exact ih'
    · have h' : (i : Int) ∉ b := by simpa using h
      rw [if_neg h', Int.add_zero] at ih'
      exact ih'
theorem specBurn_l1 {n : Nat} {es : List E} {q : Int} (g : Gr n es q) (d : List Int) (hd : d.length = n) (b : List Int) (hok : b.Nodup ∧ ∀ v ∈ b, 0 ≤ v ∧ v < n) (x : List Bool) (hx : BRep n x b) {Q : List Int → Prop}
    (hk : Ep (fun k => spec_l05Burn.l1 k d b x (nextB es (rd d) b n 0) (-1) (n : Int) es) Q) :
    ∀ i : Nat, i ≤ n → Ep (fun k => spec_l05Burn.l1 k d b x (nextB es (rd d) b (n - i) i) ((i : Int) - 1) (n : Int) es) Q := by
  have hn := g.n6
  intro i
  induction i with
  | zero => intro _; exact hk
  | succ i ih =>
    intro hi
    have ih' := ih (by omega)
    obtain ⟨m, hm⟩ : ∃ m, n - i = m + 1 := ⟨n - i - 1, by omega⟩
    have hm2 : n - (i + 1) = m := by omega
    rw [hm] at ih'
    unfold nextB at ih'
    rw [hm2, show (((i + 1 : Nat) : Int) - 1) = (i : Int) by omega]
    refine Ep.up ?_
    simp only [spec_l05Burn.l1]
    refine Ep.pos (by omega) ?_
    exact specBurn_l2 g d hd b hok x hx i (by omega) _ ih' n 0 (by omega)
theorem specBurn_l0 {n : Nat} {es : List E} {q : Int} (g : Gr n es q) (d : List Int) (hd : d.length = n) : ∀ (k : Nat) (b : List Int) (x : List Bool), n + 1 ≤ b.length + k → Burn n es (rd d) q b → BRep n x b → Ep (fun f => spec_l05Burn.l0 f d b x (n : Int) es) (· = burnW n es (rd d) k b) := by
  have hn := g.n6
  intro k
  induction k with
  | zero =>
    intro b x hl hb _
    have := hb.len g.hq
    omega
  | succ k ih =>
    intro b x hl hb hx
    have hok := hb.ok g.hq
    have hlen := hb.len g.hq
    have hxl := hx.1
    refine Ep.up ?_
    simp only [spec_l05Burn.l0]
    rw [wrap_id (x := (n : Int) - 1) (by omega) (by omega)]
    have h1 := specBurn_l1 (Q := (· = burnW n es (rd d) (k + 1) b)) g d hd b ⟨hok.1, hok.2.1⟩ x hx ?_ n (Nat.le_refl _)
    · rw [Nat.sub_self] at h1
      exact h1
    · unfold burnW
      have hnx := nextB_ok es (rd d) b n 0
      generalize nextB es (rd d) b n 0 = v at hnx ⊢
      refine Ep.up ?_
      simp only [spec_l05Burn.l1]
      refine Ep.neg (by omega) (Ep.ite (fun h => Ep.now ?_) (fun h => ?_))
      · rw [if_pos h]
      · rw [if_neg h]
        rcases hnx with ⟨h2, _⟩ | ⟨h2, h3, h4, h5⟩
        · omega
        · obtain ⟨v, rfl⟩ := Int.eq_ofNat_of_zero_le (a := v) (by omega)
          refine Ep.pos (by omega) (Ep.pos (by omega) (Ep.pos (by omega) ?_))
          exact ih _ _ (by simp; omega) (hb.step (by omega) (by omega) h4 h5) (hx.push (by omega))
theorem specBurn {n : Nat} {es : List E} {q : Int} (g : Gr n es q) (d : List Int) (hd : d.length = n) : Ep (fun k => spec_l05Burn.f k (n : Int) es d q) (· = burnF n es (rd d) q) := by
  have hn := g.n6
  have hq := g.hq
  simp only [spec_l05Burn.f]
  refine Ep.pos (by omega) (Ep.pos (by omega) (Ep.bind0 rfl (Ep.pos (by omega) (Ep.pos (by simp; omega) ?_))))
  exact specBurn_l0 g d hd n [q] _ (by simp; omega) .start (BRep.start hq.1 hq.2)
theorem implBurn_l2 {n : Nat} {es : List E} {q : Int} (g : Gr n es q) (d : List Int) (hd : d.length = n) (b : List Int) (hok : b.Nodup ∧ ∀ v ∈ b, 0 ≤ v ∧ v < n) (hbl : b.length ≤ n) (v : Nat) (hv : v < n) {Q : List Int → Prop}
    (hk : Ep (fun k => impl_burn.l1 k d b (if (v : Int) ∉ b ∧ rd d v < burnSum es b v then (v : Int) else -1) ((v + 1 : Nat) : Int) (n : Int) es) Q) :
    ∀ (dd i : Nat), i + dd = b.length → Ep (fun k => impl_burn.l2 k d b (-1) (v : Int) (burnSum es (b.take i) v) b (b.length : Int) (i : Int) (n : Int) es) Q := by
  have hn := g.n6
  have hel := g.hel
  intro dd
  induction dd with
  | zero =>
    intro i hi
    rw [List.take_of_length_le (by omega)]
    refine Ep.up ?_
    simp only [impl_burn.l2]
    have hw := wrap_succ (i := v) (by omega)
    rw [hw]
    refine Ep.neg (by omega) ?_
    refine Ep.bind (contains_ok b v (by omega)) ?_
    rintro _ rfl
    refine Ep.ite (fun h => ?_) (fun h => ?_)
    · have h' : (v : Int) ∈ b := by simpa using h
      rw [if_neg (fun y => y.1 h')] at hk
      exact hk
    · have h' : (v : Int) ∉ b := by simpa using h
      refine Ep.pos (by omega) (Ep.pos (by omega) (Ep.ite (fun h2 => ?_) (fun h2 => ?_)))
      · rw [if_pos ⟨h', h2⟩] at hk
        exact hk
      · rw [if_neg (fun y => h2 y.2)] at hk
        exact hk
  | succ dd ih =>
    intro i hi
    have hlt : i < b.length := by omega
    have hbi := hok.2 _ (List.getElem_mem hlt)
    have hb := burnSum_bd hel v (b.take i)
    have hml := mult_le es v b[i]
    have hm0 := mult_nonneg es v b[i]
    rw [List.length_take] at hb
    have e : burnSum es (b.take (i + 1)) v = burnSum es (b.take i) v + mult es v b[i] := by
      unfold burnSum
      rw [List.take_succ_eq_append_getElem hlt, List.map_append, List.sum_append]
      simp
    have ih' := ih (i + 1) (by omega)
    rw [e] at ih'
    refine Ep.up ?_
    simp only [impl_burn.l2]
    refine Ep.pos (by omega) (Ep.pos (by omega) (Ep.pos (by omega) ?_))
    rw [rd_get hlt, wrap_succ (by omega)]
    refine Ep.bind (implMult n es g.hes hel v b[i] (by omega) hbi) ?_
    rintro _ rfl
    rw [wrap_id (by omega) (by omega)]
    exact ih'
theorem implBurn_l1 {n : Nat} {es : List E} {q : Int} (g : Gr n es q) (d : List Int) (hd : d.length = n) (b : List Int) (hok : b.Nodup ∧ ∀ v ∈ b, 0 ≤ v ∧ v < n) (hbl : b.length ≤ n) {Q : List Int → Prop}
    (hk : Ep (fun k => if nextB es (rd d) b n 0 < 0 then some b else (if b.length < 17592186044416 then impl_burn.l0 k d (b ++ [nextB es (rd d) b n 0]) (n : Int) es else none)) Q) :
    ∀ (dd i : Nat), i + dd = n → nextB es (rd d) b n 0 = nextB es (rd d) b dd i → Ep (fun k => impl_burn.l1 k d b (-1) (i : Int) (n : Int) es) Q := by
  have hn := g.n6
  intro dd
  induction dd with
  | zero =>
    intro i hi he
    rw [he] at hk
    simp only [nextB] at hk
    refine Ep.up ?_
    simp only [impl_burn.l1]
    refine Ep.neg (by omega) (Ep.up ?_)
    simp only [impl_burn.j2]
    exact Ep.neg (by simp) hk
  | succ dd ih =>
    intro i hi he
    refine Ep.up ?_
    simp only [impl_burn.l1]
    refine Ep.pos (by omega) (Ep.up ?_)
    simp only [impl_burn.j2]
    refine Ep.pos (by simp) ?_
    have h2 := implBurn_l2 (Q := Q) g d hd b hok hbl i (by omega) ?_ b.length 0 (by omega)
    · simpa [burnSum] using h2
    · replace he : nextB es (rd d) b n 0 = (if (i : Int) ∉ b ∧ rd d i < burnSum es b i then (i : Int) else nextB es (rd d) b dd (i + 1)) := he
      by_cases h : (i : Int) ∉ b ∧ rd d i < burnSum es b i
      · rw [if_pos h] at he ⊢
        rw [he] at hk
        refine Ep.up ?_
        simp only [impl_burn.l1]
        refine Ep.ite (fun _ => ?_) (fun _ => ?_)
        · refine Ep.up ?_
          simp only [impl_burn.j2]
          exact Ep.neg (by simp) hk
        · refine Ep.up ?_
          simp only [impl_burn.j2]
          exact Ep.neg (by simp) hk
      · rw [if_neg h] at he ⊢
        exact ih (i + 1) (by omega) he
theorem implBurn_l0 {n : Nat} {es : List E} {q : Int} (g : Gr n es q) (d : List Int) (hd : d.length = n) : ∀ (k : Nat) (b : List Int), n + 1 ≤ b.length + k → Burn n es (rd d) q b → Ep (fun f => impl_burn.l0 f d b (n : Int) es) (· = burnW n es (rd d) k b) := by
  have hn := g.n6
  intro k
  induction k with
  | zero =>
    intro b hl hb
    have := hb.len g.hq
    omega
  | succ k ih =>
    intro b hl hb
    have hok := hb.ok g.hq
    have hlen := hb.len g.hq
    refine Ep.up ?_
    simp only [impl_burn.l0]
    refine implBurn_l1 (Q := (· = burnW n es (rd d) (k + 1) b)) g d hd b ⟨hok.1, hok.2.1⟩ hlen ?_ n 0 (by omega) rfl
    unfold burnW
    have hnx := nextB_ok es (rd d) b n 0
    generalize nextB es (rd d) b n 0 = v at hnx ⊢
    refine Ep.ite (fun h => Ep.now ?_) (fun h => ?_)
    · rw [if_pos h]
    · rw [if_neg h]
      rcases hnx with ⟨h2, _⟩ | ⟨h2, h3, h4, h5⟩
      · omega
      · exact Ep.pos (by omega) (ih _ (by simp; omega) (hb.step (by omega) (by omega) h4 h5))
theorem implBurn {n : Nat} {es : List E} {q : Int} (g : Gr n es q) (d : List Int) (hd : d.length = n) : Ep (fun k => impl_burn.f k (n : Int) es d q) (· = burnF n es (rd d) q) := by
  have hn := g.n6
  simp only [impl_burn.f]
  exact implBurn_l0 g d hd n [q] (by simp; omega) .start
end Go.Proofs.Yteokcodadpjepaa.Cf
end

section
namespace Go.Proofs.Yteokcodadpjepaa.P
open Go.RowKit Go.Proofs.YteokcodadpjepaaW.PrintWords Go.Proofs.YteokcodadpjepaaW.PrintLast Go.Proofs.YteokcodadpjepaaW.PrintMore
attribute [local go_sem] max2_int min2_int max_two min_two max_three min_three max_four min_four
set_option linter.unusedVariables false
set_option linter.unusedSimpArgs false
def spec_ParkingOfTree.j0 : Nat → List Int → Int → Bool → Int → List (S74) → Option (List Int × Bool)
 | 0, _, _, _, _, _ => none
 | k + 1, x1, x2, x21, x102000, x102001 => if x21 = true then (some (([] : List Int), false)) else (if (x1.length : Int) = 0 then (some ((([(-1)] : List Int)), true)) else (if 0 ≤ x102000 then (if (x102000 : Int).toNat ≤ 35184372088832 then ((spec_l12Walk.f k x102000 x102001 x2 (List.replicate (x102000 : Int).toNat 0) x1).bind fun bt110 => (some (bt110.2, true))) else (none)) else (none)))
def spec_ParkingOfTree.f (k : Nat) (a0_0 : Int) (l0_1 : List (S74)) (l1 : List Int) (a2 : Int) : Option (List Int × Bool) := (spec_IsTree.f k a0_0 l0_1 l1).bind fun t102 => (if t102 = true then ((spec_l01In.f a2 0 (wrap64 (a0_0 - 1))).bind fun t103 => (spec_ParkingOfTree.j0 k l1 a2 (!t103) a0_0 l0_1)) else (spec_ParkingOfTree.j0 k l1 a2 true a0_0 l0_1))
theorem spec_ParkingOfTree.mono_l : ∀ k, (∀ y0 y1 y2 y3 y4, LeO (spec_ParkingOfTree.j0 k y0 y1 y2 y3 y4) (spec_ParkingOfTree.j0 (k + 1) y0 y1 y2 y3 y4))
 | 0 => fun _ _ _ _ _ r h => by simp [spec_ParkingOfTree.j0] at h
 | k + 1 => by
  have ih0 := spec_ParkingOfTree.mono_l k
  ·intro y0 y1 y2 y3 y4
   unfold spec_ParkingOfTree.j0
   exact zm10
theorem spec_ParkingOfTree.mono : ∀ a0 a1 a2 a3 k, LeO (spec_ParkingOfTree.f k a0 a1 a2 a3) (spec_ParkingOfTree.f (k + 1) a0 a1 a2 a3) := by
 intro a0 a1 a2 a3 k; have ih0 := spec_ParkingOfTree.mono_l k; unfold spec_ParkingOfTree.f; exact zm10
def impl_oneAt.f (a0_0 : Int) (l0_1 : List (S74)) (a1 : Int) (a2 : Int) : Option (List Int) := if 0 ≤ a0_0 then (if (a0_0 : Int).toNat ≤ 35184372088832 then ((some (List.replicate (a0_0 : Int).toNat 0 : List Int)).bind fun y102 => (if 0 ≤ a1 then (if a1 < (y102.length : Int) then (some (y102.set (a1 : Int).toNat a2)) else (none)) else (none))) else (none)) else (none)
/-- The walk: fuel; what burns; what each vertex has lost; the edges taken; the parking function so far. -/
def impl_ParkingOfTree.wk (es : List S74) (tree : List Int) : Nat → Nat → List Int → List Bool → List Int → Option (List Int)
 | 0, _, _, _, _ => none
 | k + 1, b, lost, tk, f => match Cf.nextE es tk b es.length 0 with
  | none => some f
  | some i => (slices_Contains_int_int.f k tree (i : Int)).bind fun t => if t = true then impl_ParkingOfTree.wk es tree k (b ||| 2 ^ Cf.otherE es b i) lost (tk.set i true) (f.set (Cf.otherE es b i) (rd lost (Cf.otherE es b i : Int))) else impl_ParkingOfTree.wk es tree k b (lost.set (Cf.otherE es b i) (wrap64 (rd lost (Cf.otherE es b i : Int) + 1))) (tk.set i true) f
def impl_ParkingOfTree.f (k : Nat) (a0_0 : Int) (l0_1 : List S74) (l1 : List Int) (a2 : Int) : Option (List Int × Bool) :=
 (impl_IsTree.f k a0_0 l0_1 l1).bind fun t => if t = true then (impl_within.f a2 0 (wrap64 (a0_0 - 1))).bind fun u => if u = true then (impl_oneAt.f a0_0 l0_1 a2 (-1)).bind fun f0 => if (0 ≤ a0_0 ∧ a0_0 ≤ 6) ∧ l0_1.length ≤ 12 ∧ (0 ≤ a2 ∧ a2 < a0_0) ∧ f0.length = a0_0.toNat ∧ ∀ e ∈ l0_1, (0 ≤ e.f0 ∧ e.f0 < a0_0) ∧ 0 ≤ e.f1 ∧ e.f1 < a0_0 then (impl_ParkingOfTree.wk l0_1 l1 k (2 ^ a2.toNat) (List.replicate a0_0.toNat 0) (List.replicate l0_1.length false) f0).bind fun r => some (r, true) else none else some ([], false) else some ([], false)
theorem impl_ParkingOfTree.mono_wk (es : List S74) (tree : List Int) : ∀ k b lost tk f, LeO (impl_ParkingOfTree.wk es tree k b lost tk f) (impl_ParkingOfTree.wk es tree (k + 1) b lost tk f)
 | 0, _, _, _, _ => fun r h => by cases h
 | k + 1, b, lost, tk, f => by
  unfold impl_ParkingOfTree.wk
  cases Cf.nextE es tk b es.length 0 with
  | none => exact LeO.refl _
  | some i => exact LeO.bind (slices_Contains_int_int.mono _ _ k) fun t => LeO.ite (impl_ParkingOfTree.mono_wk es tree k _ _ _ _) (impl_ParkingOfTree.mono_wk es tree k _ _ _ _)
theorem impl_ParkingOfTree.mono : ∀ a0 a1 a2 a3 k, LeO (impl_ParkingOfTree.f k a0 a1 a2 a3) (impl_ParkingOfTree.f (k + 1) a0 a1 a2 a3) := by
 intro a0 a1 a2 a3 k; unfold impl_ParkingOfTree.f; exact LeO.bind (impl_IsTree.mono _ _ _ k) fun t => LeO.ite (LeO.bind (LeO.refl _) fun u => LeO.ite (LeO.bind (LeO.refl _) fun f0 => LeO.ite (LeO.bind (impl_ParkingOfTree.mono_wk _ _ _ _ _ _ _) fun r => LeO.refl _) (LeO.refl _)) (LeO.refl _)) (LeO.refl _)
end Go.Proofs.Yteokcodadpjepaa.P
end

section
namespace Go.Proofs.Yteokcodadpjepaa.Cf
set_option linter.unusedVariables false
set_option linter.unusedSimpArgs false
open Go.RowKit Go.Proofs.YteokcodadpjepaaW.PrintWords Go.Proofs.Yteokcodadpjepaa.P
/-- What burns, as a list. -/
def blB (n b : Nat) : List Bool := (List.range n).map fun v => b.testBit v
theorem blB_len (n b : Nat) : (blB n b).length = n := by simp [blB]
theorem blB_rd {n b : Nat} {x : Int} (h0 : 0 ≤ x) (h1 : x < n) : rdOf false (blB n b) x = b.testBit x.toNat := by
  unfold rdOf blB
  rw [List.getD_eq_getElem?_getD, List.getElem?_eq_getElem (by simp; omega)]
  simp
theorem blB_set {n b o : Nat} (ho : o < n) : (blB n b).set o true = blB n (b ||| 2 ^ o) := by
  refine List.ext_getElem (by simp [blB]) fun i h1 h2 => ?_
  rw [List.getElem_set]
  simp only [blB, List.getElem_map, List.getElem_range, Nat.testBit_or, Nat.testBit_two_pow]
  by_cases c : o = i
  · rw [if_pos c, decide_eq_true c, Bool.or_true]
  · rw [if_neg c, decide_eq_false c, Bool.or_false]
theorem rdEz {es : List E} {i : Nat} (h : i < es.length) : es.getD i ⟨0, 0⟩ = es[i] := by
  rw [List.getD_eq_getElem?_getD, List.getElem?_eq_getElem h]
  rfl
theorem rdB_nat {l : List Bool} (i : Nat) : rdOf false l (i : Int) = l.getD i false := by
  unfold rdOf
  rw [Int.toNat_natCast]
def nxtO (es : List E) (b : Nat) : Option Nat → Int × Int
  | none => (-1, -1)
  | some i => ((i : Int), (otherE es b i : Int))
theorem nxtO_at {es : List E} {b i : Nat} (hi : i < es.length) (h0 : 0 ≤ es[i].f0) (h1 : 0 ≤ es[i].f1) : nxtO es b (some i) = ((i : Int), if b.testBit es[i].f0.toNat = true then es[i].f1 else es[i].f0) := by
  show ((i : Int), (otherE es b i : Int)) = _
  have e : (otherE es b i : Int) = if b.testBit es[i].f0.toNat = true then es[i].f1 else es[i].f0 := by
    unfold otherE
    rw [rdEz hi]
    by_cases y : b.testBit es[i].f0.toNat = true
    · rw [if_pos y, if_pos y, Int.toNat_of_nonneg h1]
    · rw [if_neg y, if_neg y, Int.toNat_of_nonneg h0]
  rw [e]
theorem specNxtE_l0 {n : Nat} {es : List E} (hes : ∀ e ∈ es, EOk n e) (hel : es.length ≤ 12) (b : Nat) {tk : List Bool} (ht : tk.length = es.length) : ∀ (d i : Nat), i + d = es.length →
    Ep (fun k => spec_l12Next.l0 k (blB n b) tk es (es.length : Int) (i : Int)) (· = nxtO es b (nextE es tk b (es.length - i) i)) := by
  intro d
  induction d with
  | zero =>
    intro i hi
    refine Ep.up ?_
    simp only [spec_l12Next.l0]
    refine Ep.neg (by omega) (Ep.now ?_)
    rw [show es.length - i = 0 by omega]
    rfl
  | succ d ih =>
    intro i hi
    have hlt : i < es.length := by omega
    have h := ih (i + 1) (by omega)
    have he := hes _ (List.getElem_mem hlt)
    unfold EOk at he
    have hbl := blB_len n b
    have e0 := blB_rd (n := n) (b := b) he.1 (by omega)
    have e1 := blB_rd (n := n) (b := b) (x := es[i].f1) (by omega) he.2.2
    have eg := rdEz hlt
    refine Ep.up ?_
    simp only [spec_l12Next.l0]
    rw [rdE_get hlt, rdB_nat]
    refine Ep.pos (by omega) (Ep.pos (by omega) (Ep.pos (by omega) (Ep.pos (by omega) ?_)))
    by_cases c : tk.getD i false = true
    · refine Ep.pos c (Ep.up ?_)
      simp only [spec_l12Next.j1]
      refine Ep.pos trivial ?_
      rw [wrap_succ (by omega), nextE_skip hlt ht (Or.inl c)]
      exact h
    · refine Ep.neg c (Ep.pos (by omega) (Ep.pos (by omega) (Ep.pos (by omega) (Ep.pos (by omega) ?_))))
      rw [e0, e1]
      have c' : tk.getD i false = false := by simpa using c
      refine Ep.up ?_
      simp only [spec_l12Next.j1]
      rw [e0]
      by_cases x : crossE b es[i] = true
      · have x2 : (b.testBit es[i].f0.toNat == b.testBit es[i].f1.toNat) = false := by
          unfold crossE at x
          simpa [bne] using x
        rw [nextE_hit hlt ht c' (by rw [eg]; exact x)]
        refine Ep.neg (by rw [x2]; simp) (Ep.pos (by omega) (Ep.pos (by omega) ?_))
        rw [nxtO_at hlt he.1 (by omega)]
        by_cases y : b.testBit es[i].f0.toNat = true
        · exact Ep.pos y (Ep.now (by rw [if_pos y]))
        · exact Ep.neg y (Ep.now (by rw [if_neg y]))
      · have x' : crossE b es[i] = false := by simpa using x
        have x2 : (b.testBit es[i].f0.toNat == b.testBit es[i].f1.toNat) = true := by
          unfold crossE at x'
          simpa [bne] using x'
        refine Ep.pos x2 ?_
        rw [wrap_succ (by omega), nextE_skip hlt ht (Or.inr (by rw [eg]; exact x'))]
        exact h
theorem specNxtE {n : Nat} {es : List E} (hes : ∀ e ∈ es, EOk n e) (hel : es.length ≤ 12) (b : Nat) {tk : List Bool} (ht : tk.length = es.length) : Ep (fun k => spec_l12Next.f k (n : Int) es (blB n b) tk) (· = nxtO es b (nextE es tk b es.length 0)) := by
  simp only [spec_l12Next.f]
  exact specNxtE_l0 hes hel b ht es.length 0 (by omega)
theorem getD_setI (l : List Int) (i j : Nat) (x : Int) (hi : i < l.length) : (l.set i x).getD j 0 = if i = j then x else l.getD j 0 := by
  rw [List.getD_eq_getElem?_getD, List.getD_eq_getElem?_getD]
  by_cases c : i = j
  · subst c
    rw [if_pos rfl, List.getElem?_set_self hi]
    rfl
  · rw [if_neg c, List.getElem?_set_ne c]
theorem count_set {tk : List Bool} {i : Nat} (hi : i < tk.length) (h : tk.getD i true = false) : (tk.set i true).count false + 1 = tk.count false := by
  have e : tk[i] = false := by
    rw [List.getD_eq_getElem?_getD, List.getElem?_eq_getElem hi] at h
    exact h
  have hm : 0 < tk.count false := List.count_pos_iff.2 (by rw [← e]; exact List.getElem_mem hi)
  rw [List.count_set hi, e]
  simp
  omega
theorem tb_or {b o v : Nat} (h : b.testBit v = true) : (b ||| 2 ^ o).testBit v = true := by rw [Nat.testBit_or, h, Bool.true_or]
theorem tb_self (b o : Nat) : (b ||| 2 ^ o).testBit o = true := by rw [Nat.testBit_or, Nat.testBit_two_pow, decide_eq_true rfl, Bool.or_true]
/-- The other end does not burn; the first one does. -/
theorem other_ok {n : Nat} {es : List E} (hes : ∀ e ∈ es, EOk n e) {b i : Nat} (hi : i < es.length) (hc : crossE b (es.getD i ⟨0, 0⟩) = true) : otherE es b i < n ∧ b.testBit (otherE es b i) = false ∧ (b ||| 2 ^ otherE es b i).testBit (es.getD i ⟨0, 0⟩).f0.toNat = true ∧ (b ||| 2 ^ otherE es b i).testBit (es.getD i ⟨0, 0⟩).f1.toNat = true := by
  have he := hes _ (List.getElem_mem hi)
  unfold EOk at he
  rw [rdEz hi] at hc ⊢
  unfold otherE
  rw [rdEz hi]
  unfold crossE at hc
  by_cases c : b.testBit es[i].f0.toNat = true
  · rw [if_pos c]
    rw [c] at hc
    refine ⟨by omega, ?_, tb_or c, tb_self _ _⟩
    cases h : b.testBit es[i].f1.toNat with
    | false => rfl
    | true => rw [h] at hc; simp at hc
  · rw [if_neg c]
    have c' : b.testBit es[i].f0.toNat = false := by simpa using c
    rw [c'] at hc
    refine ⟨by omega, c', tb_self _ _, tb_or ?_⟩
    cases h : b.testBit es[i].f1.toNat with
    | true => rfl
    | false => rw [h] at hc; simp at hc
theorem blB_zero (n : Nat) : blB n 0 = List.replicate n false := by
  refine List.ext_getElem (by simp [blB]) fun i h1 h2 => ?_
  simp [blB]
theorem two_lt {q : Nat} (hq : q < 6) : 2 ^ q < 64 := (one_at (a := (q : Int)) (by omega) (by omega)).2
theorem specDebt_l0 (q : Int) (p : List Int) (hl : p.length ≤ 1048576) : ∀ (d i : Nat), i + d = p.length → Ep (fun k => spec_l05Debt.l0 k q p (p.length : Int) (i : Int)) (· = decide (0 ≤ debtF q p d i)) := by
  intro d
  induction d with
  | zero =>
    intro i hi
    refine Ep.up ?_
    simp only [spec_l05Debt.l0]
    exact Ep.neg (by omega) (Ep.now rfl)
  | succ d ih =>
    intro i hi
    refine Ep.up ?_
    simp only [spec_l05Debt.l0]
    refine Ep.pos (by omega) (Ep.pos (by omega) (Ep.pos (by omega) ?_))
    rw [wrap_succ (by omega)]
    unfold debtF
    refine Ep.ite (fun h => ?_) (fun h => ?_)
    · rw [if_pos h]
      exact ih (i + 1) (by omega)
    · rw [if_neg h]
      refine Ep.ite (fun h2 => Ep.now ?_) (fun h2 => ?_)
      · rw [if_pos h2]
        have : (0 : Int) ≤ i := by omega
        simp
      · rw [if_neg h2]
        exact ih (i + 1) (by omega)
theorem specDebt (p : List Int) (q : Int) (hl : p.length ≤ 1048576) : Ep (fun k => spec_l05Debt.f k p q) (· = decide (0 ≤ debtF q p p.length 0)) := by
  simp only [spec_l05Debt.f]
  exact specDebt_l0 q p hl p.length 0 (by omega)
theorem implDebt_l0 (q : Int) (p : List Int) (hl : p.length ≤ 1048576) : ∀ (d i : Nat), i + d = p.length → Ep (fun k => impl_inDebt.l0 k q p (p.length : Int) (i : Int)) (· = debtF q p d i) := by
  intro d
  induction d with
  | zero =>
    intro i hi
    refine Ep.up ?_
    simp only [impl_inDebt.l0]
    exact Ep.neg (by omega) (Ep.now rfl)
  | succ d ih =>
    intro i hi
    refine Ep.up ?_
    simp only [impl_inDebt.l0]
    refine Ep.pos (by omega) (Ep.pos (by omega) (Ep.pos (by omega) ?_))
    rw [wrap_succ (by omega)]
    unfold debtF
    refine Ep.ite (fun h => ?_) (fun h => ?_)
    · rw [if_pos h]
      exact ih (i + 1) (by omega)
    · rw [if_neg h]
      refine Ep.ite (fun h2 => Ep.now ?_) (fun h2 => ?_)
      · rw [if_pos h2]
      · rw [if_neg h2]
        exact ih (i + 1) (by omega)
theorem implDebt (p : List Int) (q : Int) (hl : p.length ≤ 1048576) : Ep (fun k => impl_inDebt.f k p q) (· = debtF q p p.length 0) := by
  simp only [impl_inDebt.f]
  exact implDebt_l0 q p hl p.length 0 (by omega)
/-- t has been borrowed. -/
def Owed (n : Nat) (es : List E) (q : Int) (d : List Int) (t : Int → Int) : Prop := Legal n es q (dual es (rd d)) t
theorem Owed.zero {n : Nat} {es : List E} {q : Int} {d : List Int} : Owed n es q d (fun _ => 0) := Legal.zero
structure Sec (n : Nat) (es : List E) (q : Int) (d : List Int) (t u : Int → Int) : Prop where
  ow : Owed n es q d t
  sets : Sets n es q (fun v => rd d v + lap es t v) u
theorem Sec.done {n : Nat} {es : List E} {q : Int} (g : Gr n es q) {d : List Int} {t u : Int → Int} (h : Sec n es q d t u) {s x : List Int} (hs : Rep n s (fun w => u w - t w)) (hx : Rep n x (fun w => rd d w + lap es t w - lap es u w)) {b : List Int} (hbu : Burn n es (rd x) q b) (hl : b.length = n) : Reduced n es q d (x, s) := by
  refine ⟨hx.1, hs.1, hbu.red g.hes g.hq hl (fun v v0 v1 v2 => ?_), ?_, fun v v0 v1 => ?_⟩
  · rw [hx.2 v v0 v1]
    exact h.sets.keeps v v0 v1 v2
  · have e : rd s q = u q - t q := hs.2 q g.hq.1 g.hq.2
    show rd s q = 0
    rw [e, h.sets.at_q, h.ow.nonneg.2]
    rfl
  · have e : rd x v = rd d v + lap es t v - lap es u v := hx.2 v v0 v1
    show rd x v = rd d v - lap es (rd s) v
    rw [e, lap_congr g.hes (t := fun w => u w - t w) hs.2, lap_sub]
    omega
/-- The numbers are no greater than a thousand million. -/
def Mod (l : List Int) : Prop := ∀ x ∈ l, -1000000000 ≤ x ∧ x ≤ 1000000000
end Go.Proofs.Yteokcodadpjepaa.Cf
end

section
namespace Go.Proofs.Yteokcodadpjepaa.Cf
set_option linter.unusedVariables false
set_option linter.unusedSimpArgs false
open Go.RowKit Go.Proofs.YteokcodadpjepaaW.PrintWords
theorem dOk_all {n : Int} {es : List E} {d : List Int} (h : dOk n es d = true) : ∃ m : Nat, n = m ∧ (∀ q : Int, 0 ≤ q → q < n → Gr m es q) ∧ 1 ≤ m ∧ m ≤ 6 ∧ d.length = m ∧ Bd d 60 ∧ Mod d := by
  obtain ⟨h1, h2, h3⟩ := dOk_iff.1 h
  obtain ⟨m, rfl⟩ := Int.eq_ofNat_of_zero_le (a := n) (by omega)
  have hg := h1.1
  unfold EsOk at hg
  exact ⟨m, rfl, fun q q0 q1 => Gr.of h1 ⟨q0, q1⟩, by omega, by omega, by omega, Bd.of60 h3, fun x hx => by have := h3 x hx; omega⟩
end Go.Proofs.Yteokcodadpjepaa.Cf
end

section
namespace Go.Proofs.Yteokcodadpjepaa.Cf
set_option linter.unusedVariables false
set_option linter.unusedSimpArgs false
open Go.RowKit Go.Proofs.YteokcodadpjepaaW.PrintWords Go.Proofs.Yteokcodadpjepaa.P
def bOk (n : Int) (es : List E) (d : List Int) (q : Int) : Bool := dOk n es d && decide (0 ≤ q ∧ q < n)
def bfO (n : Int) (es : List E) (d : List Int) (q : Int) : List Int × Bool := if bOk n es d q = true then (burnF n.toNat es (rd d) q, true) else ([], false)
theorem bOk_all {n : Int} {es : List E} {d : List Int} {q : Int} (h : bOk n es d q = true) : ∃ m : Nat, n = m ∧ Gr m es q ∧ GOk (m : Int) es ∧ d.length = m ∧ Bd d 60 := by
  unfold bOk at h
  rw [Bool.and_eq_true, decide_eq_true_eq] at h
  have hg := (dOk_iff.1 h.1).1
  obtain ⟨m, rfl, g, _, _, hl, hb, _⟩ := dOk_all h.1
  exact ⟨m, rfl, g q h.2.1 h.2.2, hg, hl, hb⟩
theorem bfO_snd {n : Int} {es : List E} {d : List Int} {q : Int} : (bfO n es d q).2 = bOk n es d q := by
  unfold bfO
  cases bOk n es d q <;> rfl
theorem specBF (n : Int) (es : List E) (d : List Int) (q : Int) (hl : d.length ≤ 1048576) : Ep (fun k => spec_BurnFrom.f k n es d q) (· = bfO n es d q) := by
  simp only [spec_BurnFrom.f, spec_l05Ok.f, bfO]
  refine Ep.bind (P := (· = bOk n es d q)) ?_ ?_
  · unfold bOk
    refine Ep.bind (specDiv n es d hl) ?_
    rintro _ rfl
    refine Ep.ite (fun h => ?_) (fun h => Ep.now ?_)
    · obtain ⟨m, rfl, _, h1, h6, _⟩ := dOk_all h
      rw [wrap_id (x := (m : Int) - 1) (by omega) (by omega), h]
      refine Ep.bind0 (l01In_eq _ _ _) (Ep.now ?_)
      have hq : (0 ≤ q ∧ q ≤ (m : Int) - 1) ↔ (0 ≤ q ∧ q < (m : Int)) := by omega
      simp only [hq, Bool.true_and]
    · have : dOk n es d = false := by simpa using h
      rw [this]
      rfl
  · rintro _ rfl
    refine Ep.ite (fun h => ?_) (fun h => Ep.now (by rw [if_neg h]))
    obtain ⟨m, rfl, g, _, hdl, _⟩ := bOk_all h
    refine Ep.bind (specBurn g d hdl) ?_
    rintro _ rfl
    exact Ep.now (by rw [if_pos h]; rfl)
theorem implBF (n : Int) (es : List E) (d : List Int) (q : Int) (hn : Wf .i64 n) (hl : d.length ≤ 1048576) : Ep (fun k => impl_BurnFrom.f k n es d q) (· = bfO n es d q) := by
  simp only [impl_BurnFrom.f, bfO]
  refine Ep.bind (implDiv n es d hl) ?_
  rintro _ rfl
  refine Ep.ite (fun h => ?_) (fun h => Ep.now ?_)
  · refine Ep.bind0 (isVertex_eq n es q hn) ?_
    have hgo := gOk_iff.2 (dOk_iff.1 h).1
    have e : (gOk n es && decide (0 ≤ q ∧ q < n)) = bOk n es d q := by unfold bOk; rw [hgo, h]
    rw [e]
    refine Ep.ite (fun h2 => ?_) (fun h2 => Ep.now (by rw [if_neg h2]))
    obtain ⟨m, rfl, g, _, hdl, _⟩ := bOk_all h2
    refine Ep.bind (implBurn g d hdl) ?_
    rintro _ rfl
    exact Ep.now (by rw [if_pos h2]; rfl)
  · have : bOk n es d q = false := by
      unfold bOk
      have : dOk n es d = false := by simpa using h
      rw [this]
      rfl
    rw [this]
    rfl
def redB (n : Int) (es : List E) (d : List Int) (q : Int) : Bool := if bOk n es d q = true then (if debtF q d d.length 0 < 0 then ((bfO n es d q).1.length : Int) == n else false) else false
theorem specRedB (n : Int) (es : List E) (d : List Int) (q : Int) (hl : d.length ≤ 1048576) : Ep (fun k => spec_IsReduced.f k n es d q) (· = redB n es d q) := by
  simp only [spec_IsReduced.f, redB]
  refine Ep.bind (specBF n es d q hl) ?_
  rintro _ rfl
  rw [bfO_snd]
  refine Ep.ite (fun h => ?_) (fun h => Ep.now (by rw [if_neg h]))
  rw [if_pos h]
  refine Ep.bind (specDebt d q hl) ?_
  rintro _ rfl
  refine Ep.ite (fun h2 => Ep.now ?_) (fun h2 => Ep.now ?_)
  · have h3 : 0 ≤ debtF q d d.length 0 := by simpa using h2
    rw [if_neg (by omega)]
  · have h3 : ¬ 0 ≤ debtF q d d.length 0 := by simpa using h2
    rw [if_pos (by omega)]
theorem implRedB (n : Int) (es : List E) (d : List Int) (q : Int) (hn : Wf .i64 n) (hl : d.length ≤ 1048576) : Ep (fun k => impl_IsReduced.f k n es d q) (· = redB n es d q) := by
  simp only [impl_IsReduced.f, redB]
  refine Ep.bind (implBF n es d q hn hl) ?_
  rintro _ rfl
  rw [bfO_snd]
  refine Ep.ite (fun h => ?_) (fun h => Ep.now (by rw [if_neg h]))
  rw [if_pos h]
  refine Ep.bind (implDebt d q hl) ?_
  rintro _ rfl
  refine Ep.ite (fun h2 => Ep.now ?_) (fun h2 => Ep.now ?_)
  · rw [if_pos h2]
  · rw [if_neg h2]
theorem redB_bOk {n : Int} {es : List E} {d : List Int} {q : Int} (h : redB n es d q = true) : bOk n es d q = true := by
  apply Classical.byContradiction
  intro hc
  unfold redB at h
  rw [if_neg hc] at h
  cases h
def parkB (n : Int) (es : List E) (d : List Int) (q : Int) : Bool := if redB n es d q = true then rd d q == -1 else false
theorem specPark (n : Int) (es : List E) (d : List Int) (q : Int) (hl : d.length ≤ 1048576) : Ep (fun k => spec_IsParking.f k n es d q) (· = parkB n es d q) := by
  simp only [spec_IsParking.f, parkB]
  refine Ep.bind (specRedB n es d q hl) ?_
  rintro _ rfl
  refine Ep.ite (fun h => ?_) (fun h => Ep.now (by rw [if_neg h]))
  obtain ⟨m, rfl, g, _, hdl, _⟩ := bOk_all (redB_bOk h)
  have := g.hq
  exact Ep.pos (by omega) (Ep.pos (by omega) (Ep.now (by rw [if_pos h])))
theorem implPark (n : Int) (es : List E) (d : List Int) (q : Int) (hn : Wf .i64 n) (hl : d.length ≤ 1048576) : Ep (fun k => impl_IsParking.f k n es d q) (· = parkB n es d q) := by
  simp only [impl_IsParking.f, parkB]
  refine Ep.bind (implRedB n es d q hn hl) ?_
  rintro _ rfl
  refine Ep.ite (fun h => ?_) (fun h => Ep.now (by rw [if_neg h]))
  obtain ⟨m, rfl, g, _, hdl, _⟩ := bOk_all (redB_bOk h)
  have := g.hq
  exact Ep.pos (by omega) (Ep.pos (by omega) (Ep.now (by rw [if_pos h])))
theorem srt_in {pre suf : List Int} {x : Int} (h : (pre ++ suf).Pairwise (· ≤ ·)) (h1 : ∀ y ∈ suf, x ≤ y) (h2 : ∀ y ∈ pre, y ≤ x) : (pre ++ x :: suf).Pairwise (· ≤ ·) := by
  rw [List.pairwise_append] at h ⊢
  refine ⟨h.1, List.pairwise_cons.2 ⟨h1, h.2.1⟩, ?_⟩
  intro a ha b hb
  rcases List.mem_cons.1 hb with rfl | hb
  · exact h2 a ha
  · exact h.2.2 a ha b hb
theorem srt_last {pre suf : List Int} {p x : Int} (h : (pre ++ p :: suf).Pairwise (· ≤ ·)) (hp : p ≤ x) : ∀ y ∈ pre ++ [p], y ≤ x := by
  intro y hy
  rw [List.pairwise_append] at h
  rcases List.mem_append.1 hy with hy | hy
  · have := h.2.2 y hy p List.mem_cons_self
    omega
  · rw [List.mem_singleton.1 hy]
    exact hp
theorem snoc_at {l : List Int} {j : Nat} (h : l.length = j + 1) : ∃ pre p, l = pre ++ [p] ∧ pre.length = j := by
  refine ⟨l.dropLast, l.getLast (by intro e; rw [e] at h; cases h), (List.dropLast_concat_getLast _).symm, by rw [List.length_dropLast]; omega⟩
theorem rd_mid (pre : List Int) (x : Int) (suf : List Int) {j : Nat} (h : pre.length = j) : rd (pre ++ x :: suf) (j : Int) = x := by
  rw [rd_nat, List.getD_eq_getElem?_getD, List.getElem?_append_right (by omega), h, Nat.sub_self]
  rfl
theorem set_mid (pre : List Int) (x y : Int) (suf : List Int) {j : Nat} (h : pre.length = j) : (pre ++ x :: suf).set j y = pre ++ y :: suf := by
  rw [List.set_append_right _ _ (by omega), h, Nat.sub_self]
  rfl
theorem specIns {L z : List Int} {x : Int} (hL : L.length ≤ 100) {i m : Nat} (hm : m ≤ 100) (hi : i < 100) {P : List Int → Prop}
    (hn : ∀ y : List Int, y.Pairwise (· ≤ ·) → y.Perm (x :: z) → Ep (fun k => spec_l12Sorted.l0 k y L (L.length : Int) ((i + 1 : Nat) : Int)) P) :
    ∀ (j : Nat) (pre : List Int) (h : Int) (suf : List Int), pre.length = j → pre ++ suf = z → z.length + 1 = m → z.Pairwise (· ≤ ·) → (∀ y ∈ suf, x < y) → Ep (fun k => spec_l12Sorted.l1 k (pre ++ h :: suf) x (j : Int) L (L.length : Int) (i : Int)) P := by
  intro j
  induction j with
  | zero =>
    intro pre h suf hp hz hl hs hx
    obtain rfl := List.length_eq_zero_iff.1 hp
    rw [List.nil_append] at hz
    subst hz
    refine Ep.up ?_
    simp only [spec_l12Sorted.l1]
    refine Ep.neg (by omega) (Ep.pos (by omega) (Ep.pos (by rw [List.length_append, List.length_cons]; omega) ?_))
    rw [wrap_succ (by omega)]
    refine hn _ ?_ ?_
    · show (x :: suf).Pairwise (· ≤ ·)
      exact List.pairwise_cons.2 ⟨fun y hy => Int.le_of_lt (hx y hy), hs⟩
    · exact List.Perm.refl _
  | succ j ih =>
    intro pre h suf hp hz hl hs hx
    obtain ⟨pre, p, rfl, hj⟩ := snoc_at hp
    subst hz
    have hjm : j + 1 < m := by rw [← hl]; simp only [List.length_append, List.length_cons, List.length_nil]; omega
    have e : wrap64 (((j + 1 : Nat) : Int) - 1) = (j : Int) := by rw [wrap_id (by omega) (by omega)]; omega
    have el : ((pre ++ [p]) ++ h :: suf).length = m := by rw [← hl]; simp only [List.length_append, List.length_cons, List.length_nil]; omega
    have hr : rd ((pre ++ [p]) ++ h :: suf) (j : Int) = p := by
      rw [List.append_assoc]
      exact rd_mid pre p _ hj
    refine Ep.up ?_
    simp only [spec_l12Sorted.l1]
    rw [e, hr]
    refine Ep.pos (by omega) (Ep.pos (by omega) (Ep.pos (by omega) (Ep.ite (fun hgt => ?_) (fun hle => ?_))))
    · refine Ep.pos (by omega) (Ep.pos (by omega) ?_)
      rw [Int.toNat_natCast, set_mid _ _ _ _ hp, List.append_assoc]
      refine ih pre p (p :: suf) hj (by rw [List.append_assoc]; rfl) hl hs ?_
      intro y hy
      rcases List.mem_cons.1 hy with rfl | hy
      · omega
      · exact hx y hy
    · refine Ep.pos (by omega) (Ep.pos (by omega) ?_)
      rw [wrap_succ (by omega), Int.toNat_natCast, set_mid _ _ _ _ hp]
      refine hn _ ?_ List.perm_middle
      refine srt_in hs (fun y hy => Int.le_of_lt (hx y hy)) ?_
      refine srt_last (suf := suf) ?_ (by omega)
      rw [List.append_assoc] at hs
      exact hs
theorem specSort_l0 {L : List Int} (hL : L.length ≤ 100) : ∀ (d i : Nat) (z : List Int), i + d = L.length → z.Perm (L.take i) → z.Pairwise (· ≤ ·) → Ep (fun k => spec_l12Sorted.l0 k z L (L.length : Int) (i : Int)) (fun s => s.Perm L ∧ s.Pairwise (· ≤ ·)) := by
  intro d
  induction d with
  | zero =>
    intro i z hi hz hs
    refine Ep.up ?_
    simp only [spec_l12Sorted.l0]
    rw [List.take_of_length_le (by omega)] at hz
    exact Ep.neg (by omega) (Ep.now ⟨hz, hs⟩)
  | succ d ih =>
    intro i z hi hz hs
    have hzl : z.length = i := by rw [hz.length_eq, List.length_take]; omega
    refine Ep.up ?_
    simp only [spec_l12Sorted.l0]
    refine Ep.pos (by omega) (Ep.pos (by omega) (Ep.pos (by omega) (Ep.pos (by omega) (Ep.bind0 rfl ?_))))
    have hl : (z ++ [(0 : Int)]).length = i + 1 := by rw [List.length_append, hzl]; rfl
    have e : wrap64 (((z ++ [(0 : Int)]).length : Int) - 1) = (i : Int) := by rw [hl, wrap_id (by omega) (by omega)]; omega
    rw [e]
    have hg : rd L (i : Int) = L[i]'(by omega) := by
      rw [rd_nat, List.getD_eq_getElem?_getD, List.getElem?_eq_getElem (by omega)]
      rfl
    rw [hg]
    refine specIns (z := z) hL (m := i + 1) (by omega) (by omega) (fun y hy hp => ih (i + 1) y (by omega) ?_ hy) i z 0 [] hzl (List.append_nil z) (by omega) hs (fun y hy => absurd hy List.not_mem_nil)
    rw [List.take_succ_eq_append_getElem (by omega)]
    exact hp.trans ((List.Perm.cons _ hz).trans (List.perm_append_singleton _ _).symm)
theorem specSort (L : List Int) (hL : L.length ≤ 100) : Ep (fun k => spec_l12Sorted.f k L) (fun s => s.Perm L ∧ s.Pairwise (· ≤ ·)) := by
  simp only [spec_l12Sorted.f]
  exact specSort_l0 hL L.length 0 [] (by omega) (List.Perm.refl _) List.Pairwise.nil
theorem less_eq (a b : Int) : cmp_Less_int.f a b = some (decide (a < b)) := by simp [cmp_Less_int.f, cmp_isNaN_int.f]
theorem implIns {z rest : List Int} {x : Int} {N i : Nat} (hN : N ≤ 100) (hz : z.length = i) (hi : i < 100) (hs : z.Pairwise (· ≤ ·)) (hlen : z.length + 1 + rest.length = N) {P : List Int → Prop}
    (hn : ∀ y : List Int, y.Pairwise (· ≤ ·) → y.Perm (x :: z) → Ep (fun k => slices_insertionSortOrdered_int.l0 k (y ++ rest) 0 (N : Int) ((i + 1 : Nat) : Int)) P) :
    ∀ (j : Nat) (pre suf : List Int), pre.length = j → pre ++ suf = z → (∀ y ∈ suf, x < y) → Ep (fun k => slices_insertionSortOrdered_int.l1 k (pre ++ x :: (suf ++ rest)) 0 (N : Int) (i : Int) (j : Int)) P := by
  intro j
  induction j with
  | zero =>
    intro pre suf hp hz2 hx
    obtain rfl := List.length_eq_zero_iff.1 hp
    rw [List.nil_append] at hz2
    subst hz2
    refine Ep.up ?_
    simp only [slices_insertionSortOrdered_int.l1]
    refine Ep.neg (by omega) ?_
    rw [wrap_succ (by omega)]
    exact hn (x :: suf) (List.pairwise_cons.2 ⟨fun y hy => Int.le_of_lt (hx y hy), hs⟩) (List.Perm.refl _)
  | succ j ih =>
    intro pre suf hp hz2 hx
    obtain ⟨pre, p, rfl, hj⟩ := snoc_at hp
    subst hz2
    have hjm : j + 1 < N := by rw [← hlen]; simp only [List.length_append, List.length_cons, List.length_nil]; omega
    have e : wrap64 (((j + 1 : Nat) : Int) - 1) = (j : Int) := by rw [wrap_id (by omega) (by omega)]; omega
    have el : ((pre ++ [p]) ++ x :: (suf ++ rest)).length = N := by rw [← hlen]; simp only [List.length_append, List.length_cons, List.length_nil]; omega
    have hr : rd ((pre ++ [p]) ++ x :: (suf ++ rest)) (j : Int) = p := by
      rw [List.append_assoc]
      exact rd_mid pre p _ hj
    have hr1 : rd ((pre ++ [p]) ++ x :: (suf ++ rest)) ((j + 1 : Nat) : Int) = x := rd_mid _ x _ hp
    refine Ep.up ?_
    simp only [slices_insertionSortOrdered_int.l1]
    rw [e, hr, hr1]
    refine Ep.pos (by omega) (Ep.pos (by omega) (Ep.pos (by omega) (Ep.pos (by omega) (Ep.pos (by omega) (Ep.bind0 (less_eq x p) (Ep.ite (fun hlt => ?_) (fun hge => ?_)))))))
    · have hlt2 : x < p := by simpa using hlt
      rw [Int.toNat_natCast, Int.toNat_natCast, set_mid _ _ _ _ hp, List.append_assoc]
      show Ep (fun k => slices_insertionSortOrdered_int.l1 k ((pre ++ p :: (p :: (suf ++ rest))).set j x) 0 (N : Int) (i : Int) (j : Int)) P
      rw [set_mid _ _ _ _ hj]
      refine ih pre (p :: suf) hj (by rw [List.append_assoc]; rfl) ?_
      intro y hy
      rcases List.mem_cons.1 hy with rfl | hy
      · exact hlt2
      · exact hx y hy
    · have hge2 : ¬ x < p := by simpa using hge
      rw [wrap_succ (by omega)]
      have := hn ((pre ++ [p]) ++ x :: suf) (srt_in hs (fun y hy => Int.le_of_lt (hx y hy)) (srt_last (suf := suf) (by rw [List.append_assoc] at hs; exact hs) (by omega))) List.perm_middle
      rw [List.append_assoc] at this
      exact this
theorem implSort_l0 {L : List Int} (hL : L.length ≤ 100) : ∀ (d i : Nat) (z : List Int), i + d = L.length → 0 < i → z.Perm (L.take i) → z.Pairwise (· ≤ ·) → Ep (fun k => slices_insertionSortOrdered_int.l0 k (z ++ L.drop i) 0 (L.length : Int) (i : Int)) (fun s => s.Perm L ∧ s.Pairwise (· ≤ ·)) := by
  intro d
  induction d with
  | zero =>
    intro i z hi h0 hz hs
    refine Ep.up ?_
    simp only [slices_insertionSortOrdered_int.l0]
    rw [List.take_of_length_le (by omega)] at hz
    rw [List.drop_of_length_le (by omega), List.append_nil]
    exact Ep.neg (by omega) (Ep.now ⟨hz, hs⟩)
  | succ d ih =>
    intro i z hi h0 hz hs
    have hzl : z.length = i := by rw [hz.length_eq, List.length_take]; omega
    refine Ep.up ?_
    simp only [slices_insertionSortOrdered_int.l0]
    refine Ep.pos (by omega) ?_
    rw [List.drop_eq_getElem_cons (show i < L.length by omega)]
    refine implIns (z := z) (x := L[i]) (rest := L.drop (i + 1)) (N := L.length) hL hzl (by omega) hs (by rw [List.length_drop]; omega) (fun y hy hp => ih (i + 1) y (by omega) (by omega) ?_ hy) i z [] hzl (List.append_nil z) (fun y hy => absurd hy List.not_mem_nil)
    rw [List.take_succ_eq_append_getElem (by omega)]
    exact hp.trans ((List.Perm.cons _ hz).trans (List.perm_append_singleton _ _).symm)
theorem implSort (L : List Int) (hL : L.length ≤ 100) : Ep (fun k => slices_insertionSortOrdered_int.f k L 0 (L.length : Int)) (fun s => s.Perm L ∧ s.Pairwise (· ≤ ·)) := by
  simp only [slices_insertionSortOrdered_int.f]
  rw [show wrap64 ((0 : Int) + 1) = ((1 : Nat) : Int) from wrap_succ (i := 0) (by omega)]
  cases L with
  | nil =>
    refine Ep.up ?_
    simp only [slices_insertionSortOrdered_int.l0]
    exact Ep.neg (by simp) (Ep.now ⟨List.Perm.refl _, List.Pairwise.nil⟩)
  | cons a L =>
    have h := implSort_l0 hL L.length 1 [a] (by rw [List.length_cons]; omega) (by omega) (List.Perm.refl _) (List.pairwise_singleton _ _)
    exact h
theorem specCondT (f lost : List Int) (i o : Int) (h : rd lost o = rd f o) : Ep (fun k => spec_l12Walk.cond k f [] lost i o) (· = true) := by
  simp only [spec_l12Walk.cond]
  exact Ep.pos ⟨rfl, h⟩ (Ep.now rfl)
theorem specCondF (f lost : List Int) (i o : Int) (h : rd lost o ≠ rd f o) : Ep (fun k => spec_l12Walk.cond k f [] lost i o) (· = false) := by
  simp only [spec_l12Walk.cond]
  refine Ep.neg (fun c => h c.2) (Ep.mono (specHas [] i (by simp)) ?_)
  rintro _ rfl
  simp
structure TInv (n : Nat) (es : List E) (f : List Int) (q d b : Nat) (lost : List Int) (tk : List Bool) : Prop where
  b64 : b < 64
  ll : lost.length = n
  lt : tk.length = es.length
  bq : b.testBit q = true
  bd : ∀ v, v < n → v ≠ q → b.testBit v = false → 0 ≤ lost.getD v 0 ∧ lost.getD v 0 ≤ f.getD v 0 ∧ lost.getD v 0 + d ≤ 12
theorem tree_main {n : Nat} (hn : n ≤ 6) {es : List E} (hes : ∀ e ∈ es, EOk n e) (hel : es.length ≤ 12) {f : List Int} (hf : f.length = n) {q : Nat} (hq : q < n) :
    ∀ (d b : Nat) (lost : List Int) (tk : List Bool), tk.count false = d → TInv n es f q d b lost tk → ∀ out : List Int, out.length + d ≤ 12 →
      ∃ r : List Int, r.length ≤ 12 ∧ Ep (fun k => impl_TreeOfParking.wk es f k b lost tk out) (· = r) ∧ Ep (fun k => spec_l12Walk.wk (n : Int) es q f [] k (blB n b) tk lost out) (fun p => p.1.Perm r ∧ p.1.Pairwise (· ≤ ·)) := by
  have stop : ∀ (d b : Nat) (lost : List Int) (tk : List Bool), TInv n es f q d b lost tk → nextE es tk b es.length 0 = none → ∀ out : List Int, out.length + d ≤ 12 →
      ∃ r : List Int, r.length ≤ 12 ∧ Ep (fun k => impl_TreeOfParking.wk es f k b lost tk out) (· = r) ∧ Ep (fun k => spec_l12Walk.wk (n : Int) es q f [] k (blB n b) tk lost out) (fun p => p.1.Perm r ∧ p.1.Pairwise (· ≤ ·)) := by
    intro d b lost tk h hx out ho
    refine ⟨out, by omega, ?_, ?_⟩
    · refine Ep.up ?_
      simp only [impl_TreeOfParking.wk]
      rw [hx]
      exact Ep.now rfl
    · refine Ep.up ?_
      simp only [spec_l12Walk.wk]
      refine Ep.bind (specNxtE hes hel b h.lt) ?_
      rintro _ rfl
      rw [hx]
      simp only [nxtO]
      exact Ep.pos (by omega) (Ep.bind (specSort out (by omega)) fun x hp => Ep.now hp)
  intro d
  induction d with
  | zero =>
    intro b lost tk hd h out ho
    have hx : nextE es tk b es.length 0 = none := by
      cases hx : nextE es tk b es.length 0 with
      | none => rfl
      | some i =>
        obtain ⟨_, h2, h3, _⟩ := nextE_lt hx
        have hi : i < tk.length := by rw [h.lt]; omega
        have := count_set hi h3
        omega
    exact stop 0 b lost tk h hx out ho
  | succ d ih =>
    intro b lost tk hd h out hout
    cases hx : nextE es tk b es.length 0 with
    | none => exact stop (d + 1) b lost tk h hx out hout
    | some i =>
      obtain ⟨_, hi0, ht, hc⟩ := nextE_lt hx
      have hi : i < es.length := by omega
      have hit : i < tk.length := by rw [h.lt]; exact hi
      obtain ⟨o1, o2, o3, o4⟩ := other_ok hes hi hc
      have hcnt := count_set hit ht
      generalize ho : otherE es b i = o at o1 o2 o3 o4
      have hoq : o ≠ q := fun e => by rw [e, h.bq] at o2; cases o2
      have hll := h.ll
      have hlt := h.lt
      have hbl := blB_len n b
      have hbo := h.bd o o1 hoq o2
      by_cases hle : f.getD o 0 ≤ lost.getD o 0
      · have hW : TInv n es f q d (b ||| 2 ^ o) lost (tk.set i true) := by
          refine ⟨(or_at h.b64 (by omega)).2, hll, by rw [List.length_set]; exact hlt, tb_or h.bq, ?_⟩
          intro v hv hvq hb
          rw [Nat.testBit_or, Bool.or_eq_false_iff] at hb
          have := h.bd v hv hvq hb.1
          omega
        obtain ⟨r, h1, h2, h3⟩ := ih (b ||| 2 ^ o) lost (tk.set i true) (by omega) hW (out ++ [(i : Int)]) (by rw [List.length_append]; simp only [List.length_cons, List.length_nil]; omega)
        refine ⟨r, h1, ?_, ?_⟩
        · refine Ep.up ?_
          simp only [impl_TreeOfParking.wk]
          rw [hx]
          refine Ep.pos (by omega) ?_
          rw [ho, rd_nat, rd_nat]
          exact Ep.pos (decide_eq_true hle) h2
        · refine Ep.up ?_
          simp only [spec_l12Walk.wk]
          refine Ep.bind (specNxtE hes hel b h.lt) ?_
          rintro _ rfl
          rw [hx]
          simp only [nxtO, ho]
          refine Ep.neg (by omega) (Ep.pos ⟨⟨by omega, by omega⟩, ⟨by omega, by omega⟩, by omega, by omega, by omega⟩ (Ep.bind (specCondT f lost (i : Int) (o : Int) (by rw [rd_nat, rd_nat]; omega)) ?_))
          rintro _ rfl
          refine Ep.pos rfl ?_
          rw [Int.toNat_natCast, Int.toNat_natCast, blB_set o1]
          exact h3
      · have hw : wrap64 (lost.getD o 0 + 1) = lost.getD o 0 + 1 := wrap_id (by omega) (by omega)
        have hW : TInv n es f q d b (lost.set o (lost.getD o 0 + 1)) (tk.set i true) := by
          refine ⟨h.b64, by rw [List.length_set]; exact hll, by rw [List.length_set]; exact hlt, h.bq, ?_⟩
          intro v hv hvq hb
          have := h.bd v hv hvq hb
          rw [getD_setI _ _ _ _ (by omega)]
          by_cases c : o = v
          · rw [if_pos c]
            subst c
            omega
          · rw [if_neg c]
            omega
        obtain ⟨r, h1, h2, h3⟩ := ih b (lost.set o (lost.getD o 0 + 1)) (tk.set i true) (by omega) hW out (by omega)
        refine ⟨r, h1, ?_, ?_⟩
        · refine Ep.up ?_
          simp only [impl_TreeOfParking.wk]
          rw [hx]
          refine Ep.pos (by omega) ?_
          rw [ho, rd_nat, rd_nat, hw]
          exact Ep.neg (by rw [decide_eq_false hle]; simp) h2
        · refine Ep.up ?_
          simp only [spec_l12Walk.wk]
          refine Ep.bind (specNxtE hes hel b h.lt) ?_
          rintro _ rfl
          rw [hx]
          simp only [nxtO, ho]
          refine Ep.neg (by omega) (Ep.pos ⟨⟨by omega, by omega⟩, ⟨by omega, by omega⟩, by omega, by omega, by omega⟩ (Ep.bind (specCondF f lost (i : Int) (o : Int) (by rw [rd_nat, rd_nat]; omega)) ?_))
          rintro _ rfl
          refine Ep.neg (by simp) ?_
          rw [Int.toNat_natCast, Int.toNat_natCast, rd_nat, hw]
          exact h3
/-- A list in order. -/
def srtF (l : List Int) : List Int := l.mergeSort (fun a b => decide (a ≤ b))
theorem srtF_perm (l : List Int) : (srtF l).Perm l := List.mergeSort_perm l _
theorem srtF_srt (l : List Int) : (srtF l).Pairwise (· ≤ ·) := by
  have h := List.pairwise_mergeSort (le := fun a b : Int => decide (a ≤ b)) (fun a b c h1 h2 => by simp at *; omega) (fun a b => by simp; omega) l
  exact h.imp (fun h => by simpa using h)
theorem srtF_eq {l s : List Int} (h1 : s.Perm l) (h2 : s.Pairwise (· ≤ ·)) : s = srtF l :=
  List.Perm.eq_of_pairwise (fun a b _ _ h1 h2 => by omega) h2 (srtF_srt l) (h1.trans (srtF_perm l).symm)
theorem tp_ex (n : Int) (es : List E) (l : List Int) (q : Int) (hn : Wf .i64 n) (hl : l.length ≤ 1048576) : ∃ p : List Int × Bool, p.1.length ≤ 12 ∧ Ep (fun k => spec_TreeOfParking.f k n es l q) (· = p) ∧ Ep (fun k => impl_TreeOfParking.f k n es l q) (· = p) := by
  by_cases hp : parkB n es l q = true
  · have hred : redB n es l q = true := by
      unfold parkB at hp
      split at hp
      · assumption
      · cases hp
    have hb := redB_bOk hred
    have hdb : debtF q l l.length 0 < 0 := by
      unfold redB at hred
      rw [if_pos hb] at hred
      split at hred
      · assumption
      · cases hred
    obtain ⟨m, rfl, g, _, hdl, _⟩ := bOk_all hb
    have hq := g.hq
    have h6 := g.n6
    obtain ⟨x, rfl⟩ := Int.eq_ofNat_of_zero_le hq.1
    have hx : x < m := by omega
    have hneg := debt_neg hdl hdb
    have hrep : ∀ v, v < m → (List.replicate m (0 : Int)).getD v 0 = 0 := fun v hv => by
      rw [List.getD_eq_getElem?_getD, List.getElem?_replicate, if_pos hv]
      rfl
    have hT : TInv m es l x es.length (2 ^ x) (List.replicate m 0) (List.replicate es.length false) := by
      refine ⟨two_lt (by omega), List.length_replicate, List.length_replicate, by rw [Nat.testBit_two_pow]; exact decide_eq_true rfl, ?_⟩
      intro v hv hvq _
      have := hneg (v : Int) (by omega) (by omega) (by omega)
      rw [rd_nat] at this
      have := g.hel
      rw [hrep v hv]
      omega
    obtain ⟨r, h1, h2, h3⟩ := tree_main h6 g.hes g.hel hdl hx es.length (2 ^ x) (List.replicate m 0) (List.replicate es.length false) (by rw [List.count_replicate_self]) hT [] (by have := g.hel; simp only [List.length_nil]; omega)
    refine ⟨(srtF r, true), by simp only; rw [(srtF_perm r).length_eq]; exact h1, ?_, ?_⟩
    · simp only [spec_TreeOfParking.f]
      refine Ep.bind (specPark (m : Int) es l (x : Int) hl) ?_
      rintro _ rfl
      refine Ep.pos hp ?_
      simp only [spec_l12Walk.f]
      have e : (List.replicate m false).set x true = blB m (2 ^ x) := by rw [← blB_zero, blB_set hx, Nat.zero_or]
      rw [← e] at h3
      refine Ep.bind (P := fun p => p.1.Perm r ∧ p.1.Pairwise (· ≤ ·)) (Ep.pos ⟨⟨by omega, by omega⟩, g.hel, by omega, by omega⟩ (by rw [Int.toNat_natCast, Int.toNat_natCast]; exact h3)) ?_
      intro p hpp
      exact Ep.now (by rw [srtF_eq hpp.1 hpp.2])
    · simp only [impl_TreeOfParking.f]
      refine Ep.bind (implPark (m : Int) es l (x : Int) hn hl) ?_
      rintro _ rfl
      refine Ep.pos hp (Ep.pos ⟨⟨by omega, by omega⟩, g.hel, ⟨by omega, by omega⟩, by rw [hdl, Int.toNat_natCast], fun e he => by have := g.hes e he; unfold EOk at this; omega⟩ ?_)
      rw [Int.toNat_natCast, Int.toNat_natCast]
      refine Ep.bind h2 ?_
      rintro _ rfl
      refine Ep.pos h1 (Ep.bind (implSort _ (by omega)) ?_)
      intro p hpp
      exact Ep.now (by rw [srtF_eq hpp.1 hpp.2])
  · refine ⟨([], false), by simp, ?_, ?_⟩
    · simp only [spec_TreeOfParking.f]
      refine Ep.bind (specPark n es l q hl) ?_
      rintro _ rfl
      exact Ep.neg hp (Ep.now rfl)
    · simp only [impl_TreeOfParking.f]
      refine Ep.bind (implPark n es l q hn hl) ?_
      rintro _ rfl
      exact Ep.neg hp (Ep.now rfl)
open Classical in
noncomputable def tpO (n : Int) (es : List E) (l : List Int) (q : Int) : List Int × Bool := if h : Wf .i64 n ∧ l.length ≤ 1048576 then (tp_ex n es l q h.1 h.2).choose else ([], false)
theorem tpO_len (n : Int) (es : List E) (l : List Int) (q : Int) : (tpO n es l q).1.length ≤ 12 := by
  unfold tpO
  by_cases h : Wf .i64 n ∧ l.length ≤ 1048576
  · rw [dif_pos h]
    exact (tp_ex n es l q h.1 h.2).choose_spec.1
  · rw [dif_neg h]
    exact Nat.zero_le _
theorem specTP (n : Int) (es : List E) (l : List Int) (q : Int) (hn : Wf .i64 n) (hl : l.length ≤ 1048576) : Ep (fun k => spec_TreeOfParking.f k n es l q) (· = tpO n es l q) := by
  unfold tpO
  rw [dif_pos ⟨hn, hl⟩]
  exact (tp_ex n es l q hn hl).choose_spec.2.1
theorem implTP (n : Int) (es : List E) (l : List Int) (q : Int) (hn : Wf .i64 n) (hl : l.length ≤ 1048576) : Ep (fun k => impl_TreeOfParking.f k n es l q) (· = tpO n es l q) := by
  unfold tpO
  rw [dif_pos ⟨hn, hl⟩]
  exact (tp_ex n es l q hn hl).choose_spec.2.2
end Go.Proofs.Yteokcodadpjepaa.Cf
end

section
namespace Go.Proofs.Yteokcodadpjepaa.Cf
set_option linter.unusedVariables false
set_option linter.unusedSimpArgs false
open Go.RowKit Go.Proofs.YteokcodadpjepaaW.PrintWords Go.Proofs.Yteokcodadpjepaa.P
def EWf (e : E) : Prop := Wf .i64 e.f0 ∧ Wf .i64 e.f1
theorem rdLE_get {es : List E} {i : Nat} (h : i < es.length) : rd_T85 es (i : Int) = es[i] := by simp [rd_T85, List.getD, h]
theorem szGraph_ok (n : Int) (es : List E) (a : Int) (ha : 0 ≤ a ∧ a ≤ 1048576) (hl : es.length ≤ 9223372036854775807) : ∃ t, laws_szGraph.f n es a = some t ∧ t ≤ 1048576 ∧ (¬ t < 0 → es.length ≤ 1048576) := by
  unfold laws_szGraph.f laws_szEdgeS.f
  rw [wrap_id (by omega) (by omega)]
  by_cases h : a - (es.length : Int) < 0
  · refine ⟨-1, ?_, by omega, by omega⟩
    rw [if_pos h]
    simp
  · refine ⟨a - es.length, ?_, by omega, by omega⟩
    rw [if_neg h]
    simp only [Option.bind_some]
    rw [if_neg h]
theorem toEdgeS_l0 (x0 : List E) (h : x0.length ≤ 1048576) : ∀ (d i : Nat) (x3 : List E), i + d = x0.length → x3.length = x0.length → (∀ j, j < i → x3[j]? = x0[j]?) → Ep (fun k => laws_toEdgeS.l0 k x0 x3 (i : Int)) (· = x0) := by
  intro d
  induction d with
  | zero =>
    intro i x3 hi hl hx
    refine Ep.up ?_
    simp only [laws_toEdgeS.l0]
    refine Ep.neg (by omega) (Ep.now ?_)
    apply List.ext_getElem?
    intro j
    by_cases hj : j < i
    · exact hx j hj
    · rw [List.getElem?_eq_none (by omega), List.getElem?_eq_none (by omega)]
  | succ d ih =>
    intro i x3 hi hl hx
    have hlt : i < x0.length := by omega
    refine Ep.up ?_
    simp only [laws_toEdgeS.l0]
    refine Ep.pos (by omega) (Ep.pos (by omega) ?_)
    rw [rdLE_get hlt, wrap_succ (by omega)]
    refine Ep.bind0 rfl (Ep.pos (by omega) ?_)
    refine ih (i + 1) _ (by omega) (by simpa using hl) ?_
    intro j hj
    rw [Int.toNat_natCast]
    by_cases e : i = j
    · subst e
      rw [List.getElem?_set_self (by omega), List.getElem?_eq_getElem (by omega)]
    · rw [List.getElem?_set_ne e]
      exact hx j (by omega)
theorem toGraph_ok (n : Int) (es : List E) (h : es.length ≤ 1048576) : Ep (fun k => laws_toGraph.f k n es) (· = (n, es)) := by
  simp only [laws_toGraph.f, laws_toEdgeS.f]
  refine Ep.bind (P := (· = es)) (Ep.pos (by omega) (Ep.pos (by simp; omega) ?_)) ?_
  · exact toEdgeS_l0 es h es.length 0 _ (by omega) (by simp) (fun j hj => by omega)
  · rintro _ rfl
    exact Ep.now rfl
theorem eqEdge_ok (a b : Int) : laws_eqEdge.f a b a b = some true := by simp [laws_eqEdge.f]
theorem eqEdgeS_l0 (x : List E) (h : x.length ≤ 1048576) : ∀ (d i : Nat), i + d = x.length → Ep (fun k => laws_eqEdgeS.l0 k x x (i : Int)) (· = true) := by
  intro d
  induction d with
  | zero =>
    intro i hi
    refine Ep.up ?_
    simp only [laws_eqEdgeS.l0]
    exact Ep.neg (by omega) (Ep.now rfl)
  | succ d ih =>
    intro i hi
    refine Ep.up ?_
    simp only [laws_eqEdgeS.l0]
    refine Ep.pos (by omega) (Ep.pos (by omega) (Ep.pos (by omega) ?_))
    rw [wrap_succ (by omega)]
    exact Ep.bind0 (eqEdge_ok _ _) (Ep.pos rfl (ih (i + 1) (by omega)))
theorem eqGraph_ok (n : Int) (es : List E) (h : es.length ≤ 1048576) : Ep (fun k => laws_eqGraph.f k n es n es) (· = true) := by
  simp only [laws_eqGraph.f]
  refine Ep.pos trivial (Ep.bind (P := (· = true)) ?_ ?_)
  · simp only [laws_eqEdgeS.f]
    exact Ep.pos trivial (eqEdgeS_l0 es h es.length 0 (by omega))
  · rintro _ rfl
    exact Ep.pos rfl (Ep.now rfl)
theorem markEdgeS_l0 (n : Nat) (hn : n ≤ 1048576) {B : Int} (hB : B ≤ 1099511627776) : ∀ (d i : Nat) (x : List E) (a : Int), i + d = n → x.length = n → 0 ≤ a → a + 2 * d ≤ B → Ep (fun k => laws_markEdgeS.l0 k x a (i : Int)) (fun r => 0 ≤ r.1 ∧ r.1 ≤ B) := by
  intro d
  induction d with
  | zero =>
    intro i x a hi hx h0 ha
    refine Ep.up ?_
    simp only [laws_markEdgeS.l0]
    exact Ep.neg (by omega) (Ep.now ⟨h0, by omega⟩)
  | succ d ih =>
    intro i x a hi hx h0 ha
    refine Ep.up ?_
    simp only [laws_markEdgeS.l0]
    refine Ep.pos (by omega) (Ep.pos (by omega) (Ep.bind0 rfl ?_))
    rw [wrap_succ (by omega), wrap_id (x := a + 1) (by omega) (by omega), wrap_id (x := a + 1 + 1) (by omega) (by omega)]
    exact ih (i + 1) _ _ (by omega) (by simpa using hx) (by omega) (by omega)
theorem markGraph_ok (n : Int) (es : List E) (a : Int) (h : es.length ≤ 1048576) (ha : 0 ≤ a ∧ a ≤ 1000) : Ep (fun k => laws_markGraph.f k n es a) (fun r => 0 ≤ r.1 ∧ r.1 ≤ 3000000) := by
  have := markEdgeS_l0 es.length h (B := 3000000) (by omega) es.length 0 es a (by omega) rfl ha.1 (by omega)
  simp only [laws_markGraph.f, laws_markEdgeS.f]
  refine Ep.bind this ?_
  intro r hr
  exact Ep.now hr
theorem law_FnExactTreeOfParking (n : Int) (es : List E) (l : List Int) (q : Int) (hn : Wf .i64 n) (hes : SL EWf es) (wl : SL (Wf .i64) l) (wq : Wf .i64 q) : Ep (fun k => laws_FnExactTreeOfParking.f k n es l q) (· = true) := by
  have hr0 : ((tpO n es l q).1).length ≤ 1048576 := by have := tpO_len n es l q; omega
  simp only [laws_FnExactTreeOfParking.f]
  refine Ep.ite (fun _ => Ep.now rfl) (fun hcl => ?_)
  have hl : l.length ≤ 1048576 := by omega
  obtain ⟨t, ht, _, h2⟩ := szGraph_ok n es 1048576 (by omega) hes.1
  refine Ep.bind0 ht (Ep.ite (fun _ => Ep.now rfl) (fun hc2 => ?_))
  have hel := h2 hc2
  repeat (first
    | exact Ep.now rfl
    | (refine Ep.bind (toGraph_ok _ _ hel) ?_; rintro _ rfl)
    | (refine Ep.bind (eqGraph_ok _ _ hel) ?_; rintro _ rfl)
    | (refine Ep.bind (toIntS_ok _ hl) ?_; rintro _ rfl)
    | (refine Ep.bind (eqIntS_ok _ hr0) ?_; rintro _ rfl)
    | (refine Ep.bind (eqIntS_ok _ hl) ?_; rintro _ rfl)
    | (refine Ep.bind (specTP _ _ _ _ hn hl) ?_; rintro _ rfl)
    | (refine Ep.bind (implTP _ _ _ _ hn hl) ?_; rintro _ rfl)
    | (refine Ep.bind (heldIntS_ok _ _ hr0 (by first | omega | (simp; omega))) ?_; rintro _ rfl)
    | (refine Ep.bind (markIntS_ok _ _ hr0 (by first | omega | (simp; omega))) ?_; rintro _ rfl)
    | (refine Ep.bind (markIntS_ok _ _ hl (by first | omega | (simp; omega))) ?_; rintro _ rfl)
    | (refine Ep.bind (markGraph_ok _ _ 1 hel (by omega)) ?_; intro r hr0_)
    | refine Ep.pos rfl ?_
    | refine Ep.pos trivial ?_
    | refine Ep.neg (by simp; omega) ?_
    | refine Ep.neg (by omega) ?_
    | refine Ep.neg (by simp) ?_
    | (refine Ep.up ?_; simp only [laws_FnExactTreeOfParking.j0])
    | (refine Ep.up ?_; simp only [laws_FnExactTreeOfParking.j1])
    | (refine Ep.up ?_; simp only [laws_FnExactTreeOfParking.j2]))
end Go.Proofs.Yteokcodadpjepaa.Cf
end

section
namespace Go.Proofs.Yteokcodadpjepaa.Cf
set_option linter.unusedVariables false
set_option linter.unusedSimpArgs false
open Go.RowKit Go.ChangeShapes Go.WideShapes Go.Deep Go.Joins Go.Proofs.YteokcodadpjepaaW.PrintWords
section
variable {H : Type} {enc : TypeId × Value → H} {P : Program} {w : World} {base : Nat} {spare : Nat → Bool} {held : Bool}
/-- A slice, whatever its elements are, if each of them can be told. -/
theorem trod_C {α : Type} {d : Kd α} {Q : α → Prop} (hd : Inhabited α) {t e : TypeId} {fuel : Nat} {cs : List Value} {x : DataW H × List MemPlace} (ht : P.underlying t = some (.slice e)) (hsz : P.cellsOf e = d.sz)
    (hel : ∀ (n : Nat) (cs : List Value) (y : DataW H × List MemPlace), DataW.trod enc P w base spare held n e cs = some y → ∃ a : α, d.K w a cs ∧ Q a)
    (h : DataW.trod enc P w base spare held fuel t cs = some x) : ∃ A len cap xs, cs = [.slice A len cap] ∧ xs.length = len ∧ len ≤ cap ∧ Kd.C d w A len xs ∧ SL Q xs := by
  rcases open_slice ht h with ⟨rfl, _⟩ | ⟨a, len, cap, m, n, D, Pl, rfl, _, hl, hm, hmm, _, hx⟩
  · exact ⟨none, 0, 0, [], rfl, rfl, Nat.le_refl _, ⟨rfl, by omega, fun hn => by omega⟩, by simp, fun x hx => by cases hx⟩
  · have hlm : len ≤ m := by rw [hmm]; split <;> omega
    obtain ⟨X, hX⟩ := choose_lt (α := α) (n := len) (p := fun i z => Q z ∧ ∃ c, c.length = d.sz ∧ d.K w z c ∧ ∀ j u, c[j]? = some u → w.cell? (a.add (i * d.sz + j)) = some u) (fun i hi => by
      obtain ⟨cs', h1, h2⟩ := hx i (by omega)
      obtain ⟨z, hz, hq⟩ := hel n cs' _ h2
      obtain ⟨_, hlen, hc⟩ := World.cells?_some h1
      refine ⟨z, hq, cs', by rw [hlen, hsz], hz, fun j u hj => ?_⟩
      have hjl : j < cs'.length := by
        apply Classical.byContradiction
        intro hc
        rw [List.getElem?_eq_none (by omega)] at hj
        cases hj
      have := hc j (by omega)
      rw [Deep.add_add, hsz] at this
      rw [this, hj])
    refine ⟨some a, len, cap, (List.range len).map X, rfl, by simp, hl, ⟨by simp, ?_, fun _ => ⟨a, rfl, fun j p hj => ?_⟩⟩, by simp; unfold maxLen at hm; omega, fun x hx => ?_⟩
    · unfold maxLen at hm
      omega
    · have hjl : j < len := by
        apply Classical.byContradiction
        intro hc
        rw [List.getElem?_eq_none (by simp; omega)] at hj
        cases hj
      have : p = X j := by
        rw [List.getElem?_eq_getElem (by simpa using hjl)] at hj
        simpa using hj.symm
      subst this
      exact (hX j hjl).2
    · obtain ⟨i, hi, rfl⟩ := List.mem_map.1 hx
      exact (hX i (List.mem_range.1 hi)).1
theorem el_int {k : IntKind} {e : TypeId} (he : P.underlying e = some (.int k)) : ∀ (n : Nat) (cs : List Value) (y : DataW H × List MemPlace), DataW.trod enc P w base spare held n e cs = some y → ∃ a : Int, (Kd.int k).K w a cs ∧ Wf k a := by
  intro n cs y h
  obtain ⟨a, rfl, _, hw⟩ := DataW.trod_int he h
  exact ⟨a, rfl, hw⟩
/-- A struct of two numbers. -/
theorem el_pair {k0 k1 : IntKind} {e : TypeId} {f0 f1 : Field} (he : P.underlying e = some (.struct #[f0, f1])) (ce : P.cellsOf e = 2) (o0 : f0.offset = 0) (o1 : f1.offset = 1) (c0 : P.cellsOf f0.type = 1) (c1 : P.cellsOf f1.type = 1)
    (u0 : P.underlying f0.type = some (.int k0)) (u1 : P.underlying f1.type = some (.int k1)) :
    ∀ (n : Nat) (cs : List Value) (y : DataW H × List MemPlace), DataW.trod enc P w base spare held n e cs = some y → ∃ a b : Int, cs = [.int k0 a, .int k1 b] ∧ Wf k0 a ∧ Wf k1 b := by
  intro n cs y h
  obtain ⟨y0, y1, m, _, hl, h0, h1⟩ := trod_struct2 he h
  rw [ce] at hl
  rw [o0, c0] at h0
  rw [o1, c1] at h1
  match cs, hl with
  | [a, b], _ =>
    obtain ⟨x, hx, _, wx⟩ := DataW.trod_int u0 h0
    obtain ⟨z, hz, _, wz⟩ := DataW.trod_int u1 h1
    simp at hx hz
    subst hx; subst hz
    exact ⟨x, z, rfl, wx, wz⟩
/-- A slice that comes in. -/
theorem arg_slice {α : Type} {d : Kd α} {Q : α → Prop} (hd : Inhabited α) {t e : TypeId} {a : Option Addr} {len cap : Nat} {x : DataW H} {ps : List MemPlace} (ht : P.underlying t = some (.slice e)) (hsz : P.cellsOf e = d.sz)
    (hel : ∀ (n : Nat) (cs : List Value) (y : DataW H × List MemPlace), DataW.trod enc P w base spare held n e cs = some y → ∃ a : α, d.K w a cs ∧ Q a)
    (h : DataW.Trod enc P w base spare held t (.slice a len cap) x ps) : ∃ xs : List α, xs.length = len ∧ len ≤ cap ∧ Kd.C d w a len xs ∧ SL Q xs := by
  obtain ⟨fuel, hf⟩ := h
  obtain ⟨A, l, c, xs, hcs, hl, hc, hC, hq⟩ := trod_C hd ht hsz hel hf
  simp [Value.cells] at hcs
  obtain ⟨rfl, rfl, rfl⟩ := hcs
  exact ⟨xs, hl, hc, hC, hq⟩
/-- A struct of a number and a slice that comes in. -/
theorem arg_graph {α : Type} {d : Kd α} {Q : α → Prop} (hd : Inhabited α) {r : Reach} {b0 : Nat} {t e : TypeId} {f0 f1 : Field} {v : Value} {x : DataW H} {p : List MemPlace} (hs : P.underlying t = some (.struct #[f0, f1])) (hone : oneCellFields P #[f0, f1] = true) (hC : P.cellsOf t = 2)
    (u0 : P.underlying f0.type = some (.int .i64)) (u1 : P.underlying f1.type = some (.slice e)) (hsz : P.cellsOf e = d.sz)
    (hel : ∀ (n : Nat) (cs : List Value) (y : DataW H × List MemPlace), DataW.trod enc P w base spare held n e cs = some y → ∃ a : α, d.K w a cs ∧ Q a)
    (hv : Value.okWide P w r b0 t v) (h : DataW.Trod enc P w base spare held t v x p) : ∃ n a len cap, ∃ xs : List α, v = .agg #[.int .i64 n, .slice a len cap] ∧ Wf .i64 n ∧ xs.length = len ∧ len ≤ cap ∧ Kd.C d w a len xs ∧ SL Q xs := by
  obtain ⟨v0, v1, y0, y1, m, rfl, _, _, h0, h1⟩ := open_agg2 hs hone hC hv h
  obtain ⟨n, hn, _, hw⟩ := DataW.trod_int u0 h0
  obtain ⟨A, len, cap, xs, hcs, hl, hc, hx, hq⟩ := trod_C hd u1 hsz hel h1
  simp at hn hcs
  subst hn; subst hcs
  exact ⟨n, A, len, cap, xs, rfl, hw, hl, hc, hx, hq⟩
end
end Go.Proofs.Yteokcodadpjepaa.Cf
end

section
namespace Go.Proofs.Yteokcodadpjepaa.Cf
theorem and2 {a b : Bool} (h : a = true) (k : b = true) : (a && b) = true := by rw [h, k]; rfl
theorem iniS : Try.prog.initOrder.toList = ['h', 'a', 'r', 'n', 'e', 's', 's', ' ', '3', 'b', '5', '8', '0', '4', '1', 'e', '2', 'c', '0', '9', '4', '3', 'c', '3', '4', '3', '1', '8', 'd', '6', '7', '5', 'a', '3', 'b', '2', '1', 'f', '9', 'e', '4', 'c', '1', '5', 'a', 'f', '0', '8', 'f', 'c', 'a', 'd', 'b', 'b', 'f', '4', '3', '7', '8', '1', '2', '7', 'b', '0', '4', '2', '3', 'd', 'c', '4', 'b', '6', ' ', 'c', 'u', 't', ' ', 'a', 't', ' ', 'l', 'o', 'o', 'p', '.', 'e', 'x', 'a', 'm', 'p', 'l', 'e', '/', 'g', '0', '0', '8', '4', '1', '/', 'l', 'a', 'w', 's', '.', 'F', 'n', 'E', 'x', 'a', 'c', 't', 'P', 'a', 'r', 'k', 'i', 'n', 'g', 'O', 'f', 'T', 'r', 'e', 'e', ' ', 'l', 'o', 'o', 'p', '.', 'e', 'x', 'a', 'm', 'p', 'l', 'e', '/', 'g', '0', '0', '8', '4', '1', '/', 'l', 'a', 'w', 's', '.', 'F', 'n', 'E', 'x', 'a', 'c', 't', 'T', 'r', 'e', 'e', 'O', 'f', 'P', 'a', 'r', 'k', 'i', 'n', 'g', ' ', 'l', 'o', 'o', 'p', '.', 'e', 'x', 'a', 'm', 'p', 'l', 'e', '/', 'g', '0', '0', '8', '4', '1', '/', 'l', 'a', 'w', 's', '.', 'F', 'n', 'E', 'x', 'a', 'c', 't', 'P', 'a', 'r', 'k', 'i', 'n', 'g', 's', 'O', 'f', ' ', 'l', 'o', 'o', 'p', '.', 'e', 'x', 'a', 'm', 'p', 'l', 'e', '/', 'g', '0', '0', '8', '4', '1', '/', 'l', 'a', 'w', 's', '.', 'F', 'n', 'P', 'a', 'r', 'k', 'i', 'n', 'g'] := by
  have h : Try.prog.initOrder = String.ofList ['h', 'a', 'r', 'n', 'e', 's', 's', ' ', '3', 'b', '5', '8', '0', '4', '1', 'e', '2', 'c', '0', '9', '4', '3', 'c', '3', '4', '3', '1', '8', 'd', '6', '7', '5', 'a', '3', 'b', '2', '1', 'f', '9', 'e', '4', 'c', '1', '5', 'a', 'f', '0', '8', 'f', 'c', 'a', 'd', 'b', 'b', 'f', '4', '3', '7', '8', '1', '2', '7', 'b', '0', '4', '2', '3', 'd', 'c', '4', 'b', '6', ' ', 'c', 'u', 't', ' ', 'a', 't', ' ', 'l', 'o', 'o', 'p', '.', 'e', 'x', 'a', 'm', 'p', 'l', 'e', '/', 'g', '0', '0', '8', '4', '1', '/', 'l', 'a', 'w', 's', '.', 'F', 'n', 'E', 'x', 'a', 'c', 't', 'P', 'a', 'r', 'k', 'i', 'n', 'g', 'O', 'f', 'T', 'r', 'e', 'e', ' ', 'l', 'o', 'o', 'p', '.', 'e', 'x', 'a', 'm', 'p', 'l', 'e', '/', 'g', '0', '0', '8', '4', '1', '/', 'l', 'a', 'w', 's', '.', 'F', 'n', 'E', 'x', 'a', 'c', 't', 'T', 'r', 'e', 'e', 'O', 'f', 'P', 'a', 'r', 'k', 'i', 'n', 'g', ' ', 'l', 'o', 'o', 'p', '.', 'e', 'x', 'a', 'm', 'p', 'l', 'e', '/', 'g', '0', '0', '8', '4', '1', '/', 'l', 'a', 'w', 's', '.', 'F', 'n', 'E', 'x', 'a', 'c', 't', 'P', 'a', 'r', 'k', 'i', 'n', 'g', 's', 'O', 'f', ' ', 'l', 'o', 'o', 'p', '.', 'e', 'x', 'a', 'm', 'p', 'l', 'e', '/', 'g', '0', '0', '8', '4', '1', '/', 'l', 'a', 'w', 's', '.', 'F', 'n', 'P', 'a', 'r', 'k', 'i', 'n', 'g'] := by kernel_rfl
  exact (congrArg String.toList h).trans String.toList_ofList
theorem iniW : behindMainWord (wordsSigns Try.prog.initOrder.toList) = [['c', 'u', 't'], ['a', 't'], ['l', 'o', 'o', 'p', '.', 'e', 'x', 'a', 'm', 'p', 'l', 'e', '/', 'g', '0', '0', '8', '4', '1', '/', 'l', 'a', 'w', 's', '.', 'F', 'n', 'E', 'x', 'a', 'c', 't', 'P', 'a', 'r', 'k', 'i', 'n', 'g', 'O', 'f', 'T', 'r', 'e', 'e'], ['l', 'o', 'o', 'p', '.', 'e', 'x', 'a', 'm', 'p', 'l', 'e', '/', 'g', '0', '0', '8', '4', '1', '/', 'l', 'a', 'w', 's', '.', 'F', 'n', 'E', 'x', 'a', 'c', 't', 'T', 'r', 'e', 'e', 'O', 'f', 'P', 'a', 'r', 'k', 'i', 'n', 'g'], ['l', 'o', 'o', 'p', '.', 'e', 'x', 'a', 'm', 'p', 'l', 'e', '/', 'g', '0', '0', '8', '4', '1', '/', 'l', 'a', 'w', 's', '.', 'F', 'n', 'E', 'x', 'a', 'c', 't', 'P', 'a', 'r', 'k', 'i', 'n', 'g', 's', 'O', 'f'], ['l', 'o', 'o', 'p', '.', 'e', 'x', 'a', 'm', 'p', 'l', 'e', '/', 'g', '0', '0', '8', '4', '1', '/', 'l', 'a', 'w', 's', '.', 'F', 'n', 'P', 'a', 'r', 'k', 'i', 'n', 'g']] := (congrArg (fun x => behindMainWord (wordsSigns x)) iniS).trans (by kernel_rfl)
theorem mk_cut {P : Program} {r : List (List Char)} (h : behindMainWord (wordsSigns P.initOrder.toList) = ['c', 'u', 't'] :: r) : P.make = some .cut := by
  unfold Program.make
  rw [h]
  rfl
theorem lf_cut {P : Program} {r : List (List Char)} (h : behindMainWord (wordsSigns P.initOrder.toList) = ['c', 'u', 't'] :: r) (k : (stripLifts liftWords (['c', 'u', 't'] :: r)).1 = []) : P.liftsFinal = false := by
  unfold Program.liftsFinal Program.headLifts
  rw [h]
  simp [k]
theorem en_cut {P : Program} {r : List (List Char)} (h : behindMainWord (wordsSigns P.initOrder.toList) = ['c', 'u', 't'] :: r) (k1 : (stripLifts liftWords (['c', 'u', 't'] :: r)).1 = []) (k2 : ((stripLifts liftWords (['c', 'u', 't'] :: r)).2.head? == some "cut".toList) = true) (h1 : P.laysLater = false) (h2 : P.bearsReflect = false) (h3 : P.doorFits [] = true) : P.mayEnter = true := by
  unfold Program.mayEnter
  rw [h]
  simp only [k1, k2, h1, h2, h3]
  simp
theorem make : Try.prog.make = some .cut := mk_cut iniW
theorem lifted : Try.prog.liftsFinal = false := lf_cut iniW (by kernel_rfl)
theorem enter : Try.prog.mayEnter = true := en_cut iniW (by kernel_rfl) (by kernel_rfl) (by kernel_rfl) (by kernel_rfl) (by kernel_rfl)
end Go.Proofs.Yteokcodadpjepaa.Cf
end

