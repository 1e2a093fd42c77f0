/- A part of the proof of FnOrients. -/
import Derived.Test.YtgobnfeahffnaaaBFnOrients3
import Derived.Test.YtgobnfeahffnaaaBFnOrients2
import Derived.Test.YtgobnfeahffnaaaBFnOrients0
import Derived.Test.YtgobnfeahffnaaaBFnOrients1
section
namespace Go.Proofs.Ytgobnfeahffnaaa.Cf
set_option linter.unusedVariables false
set_option linter.unusedSimpArgs false
def sumN : Nat → (Nat → Int) → Int
  | 0, _ => 0
  | n + 1, f => sumN n f + f n
def sumE (es : List E) (f : E → Int) : Int := (es.map f).sum
theorem sumE_cons (e : E) (r : List E) (f : E → Int) : sumE (e :: r) f = f e + sumE r f := by simp [sumE]
theorem sumN_congr {n : Nat} {f g : Nat → Int} (h : ∀ i, i < n → f i = g i) : sumN n f = sumN n g := by
  induction n with
  | zero => rfl
  | succ n ih => simp only [sumN]; rw [ih (fun i hi => h i (by omega)), h n (by omega)]
theorem sumN_le {n : Nat} {f g : Nat → Int} (h : ∀ i, i < n → f i ≤ g i) : sumN n f ≤ sumN n g := by
  induction n with
  | zero => exact Int.le_refl _
  | succ n ih =>
    simp only [sumN]
    have := ih (fun i hi => h i (by omega))
    have := h n (by omega)
    omega
theorem sumN_add (n : Nat) (f g : Nat → Int) : sumN n (fun i => f i + g i) = sumN n f + sumN n g := by
  induction n with
  | zero => rfl
  | succ n ih => simp only [sumN]; rw [ih]; omega
theorem sumN_zero (n : Nat) : sumN n (fun _ => 0) = 0 := by
  induction n with
  | zero => rfl
  | succ n ih => simp only [sumN]; rw [ih]; rfl
theorem sumN_const (n : Nat) (c : Int) : sumN n (fun _ => c) = n * c := by
  induction n with
  | zero => simp [sumN]
  | succ n ih => simp only [sumN]; rw [ih]; rw [Int.natCast_succ, Int.add_mul]; omega
theorem sumN_one {n : Nat} (k : Nat) (hk : k < n) (c : Int) : sumN n (fun i => if i = k then c else 0) = c := by
  induction n with
  | zero => omega
  | succ n ih =>
    simp only [sumN]
    by_cases h : n = k
    · subst h
      rw [if_pos rfl, sumN_congr (g := fun _ => 0) (fun i hi => by rw [if_neg (by omega)]), sumN_zero]
      omega
    · rw [ih (by omega), if_neg h]
      omega
theorem sumN_pos_term {n : Nat} {f : Nat → Int} (h : ∀ i, i < n → 0 ≤ f i) (k : Nat) (hk : k < n) : f k ≤ sumN n f := by
  induction n with
  | zero => omega
  | succ n ih =>
    simp only [sumN]
    have h0 : 0 ≤ sumN n f := by
      have := sumN_le (n := n) (f := fun _ => 0) (g := f) (fun i hi => h i (by omega))
      rw [sumN_zero] at this
      exact this
    by_cases e : k = n
    · subst e; omega
    · have := ih (fun i hi => h i (by omega)) (by omega)
      have := h n (by omega)
      omega
theorem sumE_congr {es : List E} {f g : E → Int} (h : ∀ e ∈ es, f e = g e) : sumE es f = sumE es g := by
  unfold sumE
  rw [List.map_congr_left h]
theorem sumE_add (es : List E) (f g : E → Int) : sumE es (fun e => f e + g e) = sumE es f + sumE es g := by
  induction es with
  | nil => rfl
  | cons e r ih => rw [sumE_cons, sumE_cons, sumE_cons, ih]; omega
theorem sumE_le {es : List E} {f g : E → Int} (h : ∀ e ∈ es, f e ≤ g e) : sumE es f ≤ sumE es g := by
  induction es with
  | nil => exact Int.le_refl _
  | cons e r ih =>
    rw [sumE_cons, sumE_cons]
    have := ih (fun x hx => h x (List.mem_cons_of_mem _ hx))
    have := h e List.mem_cons_self
    omega
theorem sumE_zero {es : List E} {f : E → Int} (h : ∀ e ∈ es, f e = 0) : sumE es f = 0 := by
  induction es with
  | nil => rfl
  | cons e r ih => rw [sumE_cons, ih (fun x hx => h x (List.mem_cons_of_mem _ hx)), h e List.mem_cons_self]; rfl
theorem sumE_nonneg {es : List E} {f : E → Int} (h : ∀ e ∈ es, 0 ≤ f e) : 0 ≤ sumE es f := by
  have := sumE_le (es := es) (f := fun _ => 0) (g := f) h
  rw [sumE_zero (fun _ _ => rfl)] at this
  exact this
theorem sumE_term {es : List E} {f : E → Int} (h : ∀ e ∈ es, 0 ≤ f e) {e : E} (he : e ∈ es) : f e ≤ sumE es f := by
  induction es with
  | nil => cases he
  | cons a r ih =>
    rw [sumE_cons]
    have h0 := sumE_nonneg (fun x hx => h x (List.mem_cons_of_mem a hx))
    rcases List.mem_cons.1 he with rfl | he
    · omega
    · have := ih (fun x hx => h x (List.mem_cons_of_mem _ hx)) he
      have := h a List.mem_cons_self
      omega
theorem sumE_neg (es : List E) (f : E → Int) : sumE es (fun e => - f e) = - sumE es f := by
  induction es with
  | nil => rfl
  | cons e r ih => rw [sumE_cons, sumE_cons, ih]; omega
theorem sumE_mul (es : List E) (c : Int) (f : E → Int) : sumE es (fun e => c * f e) = c * sumE es f := by
  induction es with
  | nil => simp [sumE]
  | cons e r ih => rw [sumE_cons, sumE_cons, ih, Int.mul_add]
/-- What an edge takes from w when the script s is fired. -/
def lapE (s : Int → Int) (w : Int) (e : E) : Int := (if e.f0 = w then s e.f0 - s e.f1 else 0) + (if e.f1 = w then s e.f1 - s e.f0 else 0)
/-- What w loses when the script s is fired. -/
def lap (es : List E) (s : Int → Int) (w : Int) : Int := sumE es (lapE s w)
def ind (P : Int → Bool) (v : Int) : Int := if P v then 1 else 0
def one (v : Int) (t : Int) (w : Int) : Int := if w = v then t else 0
theorem lap_nil (s : Int → Int) (w : Int) : lap [] s w = 0 := rfl
theorem lap_cons (e : E) (r : List E) (s : Int → Int) (w : Int) : lap (e :: r) s w = lapE s w e + lap r s w := sumE_cons _ _ _
theorem lap_add (es : List E) (s t : Int → Int) (w : Int) : lap es (fun v => s v + t v) w = lap es s w + lap es t w := by
  unfold lap
  rw [← sumE_add]
  apply sumE_congr
  intro e _
  simp only [lapE]
  split <;> split <;> omega
theorem lap_neg (es : List E) (s : Int → Int) (w : Int) : lap es (fun v => - s v) w = - lap es s w := by
  unfold lap
  rw [← sumE_neg]
  apply sumE_congr
  intro e _
  simp only [lapE]
  split <;> split <;> omega
theorem lap_sub (es : List E) (s t : Int → Int) (w : Int) : lap es (fun v => s v - t v) w = lap es s w - lap es t w := by
  have := lap_add es s (fun v => - t v) w
  rw [lap_neg] at this
  rw [show (fun v => s v - t v) = (fun v => s v + - t v) from funext fun v => by omega, this]
  omega
theorem lap_congr {n : Int} {es : List E} (hes : ∀ e ∈ es, EOk n e) {s t : Int → Int} (h : ∀ v, 0 ≤ v → v < n → s v = t v) (w : Int) : lap es s w = lap es t w := by
  apply sumE_congr
  intro e he
  have hk := hes e he
  unfold EOk at hk
  unfold lapE
  rw [h e.f0 (by omega) (by omega), h e.f1 (by omega) (by omega)]
theorem lap_const {es : List E} {s : Int → Int} {c : Int} (h : ∀ e ∈ es, s e.f0 = c ∧ s e.f1 = c) (w : Int) : lap es s w = 0 := by
  apply sumE_zero
  intro e he
  unfold lapE
  rw [(h e he).1, (h e he).2]
  split <;> split <;> omega
/-- Dirichlet's form. -/
theorem dirichlet {n : Nat} {es : List E} (hes : ∀ e ∈ es, EOk n e) (f s : Int → Int) : sumN n (fun i => f i * lap es s i) = sumE es (fun e => (f e.f0 - f e.f1) * (s e.f0 - s e.f1)) := by
  induction es with
  | nil => simp only [lap_nil, Int.mul_zero]; rw [sumN_zero]; rfl
  | cons e r ih =>
    have hk := hes e List.mem_cons_self
    unfold EOk at hk
    rw [sumE_cons, ← ih (fun x hx => hes x (List.mem_cons_of_mem _ hx))]
    have h1 : sumN n (fun i => f i * lap (e :: r) s i) = sumN n (fun i => f i * lapE s i e) + sumN n (fun i => f i * lap r s i) := by
      rw [← sumN_add]
      apply sumN_congr
      intro i _
      rw [lap_cons, Int.mul_add]
    rw [h1]
    congr 1
    have h2 : sumN n (fun i => f i * lapE s i e) = sumN n (fun i => if i = e.f0.toNat then f e.f0 * (s e.f0 - s e.f1) else 0) + sumN n (fun i => if i = e.f1.toNat then f e.f1 * (s e.f1 - s e.f0) else 0) := by
      rw [← sumN_add]
      apply sumN_congr
      intro i _
      unfold lapE
      have c0 : (e.f0 = (i : Int)) ↔ (i = e.f0.toNat) := by omega
      have c1 : (e.f1 = (i : Int)) ↔ (i = e.f1.toNat) := by omega
      rw [Int.mul_add]
      congr 1
      · by_cases h : e.f0 = (i : Int)
        · rw [if_pos h, if_pos (c0.1 h), h]
        · rw [if_neg h, if_neg (fun x => h (c0.2 x)), Int.mul_zero]
      · by_cases h : e.f1 = (i : Int)
        · rw [if_pos h, if_pos (c1.1 h), h]
        · rw [if_neg h, if_neg (fun x => h (c1.2 x)), Int.mul_zero]
    rw [h2, sumN_one _ (by omega), sumN_one _ (by omega)]
    rw [show s e.f1 - s e.f0 = -(s e.f0 - s e.f1) by omega, Int.mul_neg, Int.sub_mul]
    omega
/-- Firing keeps the degree. -/
theorem lap_sum {n : Nat} {es : List E} (hes : ∀ e ∈ es, EOk n e) (s : Int → Int) : sumN n (fun i => lap es s i) = 0 := by
  have := dirichlet hes (fun _ => 1) s
  simp only [Int.one_mul, Int.sub_self, Int.zero_mul] at this
  rw [this]
  exact sumE_zero (fun _ _ => rfl)
/-- q-reduced. -/
def Red (n : Nat) (es : List E) (q : Int) (d : Int → Int) : Prop :=
  (∀ v : Int, 0 ≤ v → v < n → v ≠ q → 0 ≤ d v) ∧ ∀ S : Int → Bool, S q = false → (∃ v : Int, 0 ≤ v ∧ v < n ∧ S v = true) → ∃ v : Int, 0 ≤ v ∧ v < n ∧ S v = true ∧ d v < lap es (ind S) v
/-- The greatest value. -/
theorem exists_max {n : Nat} (h : 0 < n) (s : Int → Int) : ∃ m : Nat, m < n ∧ ∀ v : Int, 0 ≤ v → v < n → s v ≤ s m := by
  induction n with
  | zero => omega
  | succ n ih =>
    by_cases h0 : n = 0
    · subst h0
      exact ⟨0, by omega, fun v h1 h2 => by have : v = ((0 : Nat) : Int) := by omega
                                            rw [this]; exact Int.le_refl _⟩
    · obtain ⟨m, hm, hmax⟩ := ih (by omega)
      by_cases hc : s m ≤ s n
      · refine ⟨n, by omega, fun v h1 h2 => ?_⟩
        by_cases e : v = n
        · subst e; exact Int.le_refl _
        · have := hmax v h1 (by omega)
          omega
      · refine ⟨m, by omega, fun v h1 h2 => ?_⟩
        by_cases e : v = n
        · subst e; omega
        · exact hmax v h1 (by omega)
/-- Where s is greatest, it takes at least as much as its greatest set does. -/
theorem lap_max {n : Int} {es : List E} (hes : ∀ e ∈ es, EOk n e) {s : Int → Int} {M : Int} (hM : ∀ v, 0 ≤ v → v < n → s v ≤ M) {v : Int} (hv : s v = M) : lap es (ind (fun x => decide (s x = M))) v ≤ lap es s v := by
  apply sumE_le
  intro e he
  have hk := hes e he
  unfold EOk at hk
  have h0 := hM e.f0 (by omega) (by omega)
  have h1 := hM e.f1 (by omega) (by omega)
  unfold lapE ind
  by_cases a : e.f0 = v
  · have a' : s e.f0 = M := by rw [a]; exact hv
    have b : ¬ e.f1 = v := by omega
    rw [if_pos a, if_pos a, if_neg b, if_neg b]
    by_cases c : s e.f1 = M
    · simp [a', c]
    · simp [a', c]; omega
  · rw [if_neg a, if_neg a]
    by_cases b : e.f1 = v
    · have b' : s e.f1 = M := by rw [b]; exact hv
      rw [if_pos b, if_pos b]
      by_cases c : s e.f0 = M
      · simp [b', c]
      · simp [b', c]; omega
    · rw [if_neg b, if_neg b]
      exact Int.le_refl _
theorem red_max {n : Nat} {es : List E} (hes : ∀ e ∈ es, EOk n e) {q : Int} (hq : 0 ≤ q ∧ q < n) {d d' s : Int → Int} (hd : Red n es q d) (hd' : ∀ v : Int, 0 ≤ v → v < n → v ≠ q → 0 ≤ d' v) (hs : ∀ v : Int, 0 ≤ v → v < n → d' v = d v - lap es s v) : ∀ v : Int, 0 ≤ v → v < n → s v ≤ s q := by
  obtain ⟨m, hm, hmax⟩ := exists_max (n := n) (by omega) s
  by_cases hc : s m ≤ s q
  · intro v h1 h2
    have := hmax v h1 h2
    omega
  · exfalso
    obtain ⟨v, h1, h2, hS, hlt⟩ := hd.2 (fun x => decide (s x = s m)) (by simp; omega) ⟨m, by omega, by omega, by simp⟩
    have hv : s v = s m := by simpa using hS
    have hle := lap_max hes hmax hv
    have hvq : v ≠ q := by rintro rfl; omega
    have := hd' v h1 h2 hvq
    rw [hs v h1 h2] at this
    omega
/-- Two reduced divisors of one class are one, and the script between them is constant. -/
theorem red_unique {n : Nat} {es : List E} (hes : ∀ e ∈ es, EOk n e) {q : Int} (hq : 0 ≤ q ∧ q < n) {d d' s : Int → Int} (hd : Red n es q d) (hd' : Red n es q d') (hs : ∀ v : Int, 0 ≤ v → v < n → d' v = d v - lap es s v) :
    (∀ v : Int, 0 ≤ v → v < n → s v = s q) ∧ ∀ v : Int, 0 ≤ v → v < n → d' v = d v := by
  have h1 := red_max hes hq hd hd'.1 hs
  have h2 := red_max (s := fun v => - s v) hes hq hd' hd.1 (fun v a b => by rw [lap_neg, hs v a b]; omega)
  have hc : ∀ v : Int, 0 ≤ v → v < n → s v = s q := fun v a b => by
    have := h1 v a b
    have := h2 v a b
    omega
  refine ⟨hc, fun v a b => ?_⟩
  rw [hs v a b, lap_const (c := s q) (fun e he => ?_)]
  · omega
  · have hk := hes e he
    unfold EOk at hk
    exact ⟨hc _ (by omega) (by omega), hc _ (by omega) (by omega)⟩
/-- Across an edge out of a set that is above, no more than what the set loses. -/
theorem cut_le {n : Nat} {es : List E} (hes : ∀ e ∈ es, EOk n e) {s : Int → Int} {t C : Int} (hC : sumN n (fun i => ind (fun v => decide (t ≤ s v)) i * lap es s i) ≤ C) {a b : Int} (hab : Adj es a b) (ha : t ≤ s a) (hb : s b < t) : s a - s b ≤ C := by
  rw [dirichlet hes] at hC
  obtain ⟨e, he, hx⟩ := hab
  have hnn : ∀ e ∈ es, 0 ≤ (ind (fun v => decide (t ≤ s v)) e.f0 - ind (fun v => decide (t ≤ s v)) e.f1) * (s e.f0 - s e.f1) := by
    intro e _
    unfold ind
    by_cases h0 : t ≤ s e.f0 <;> by_cases h1 : t ≤ s e.f1 <;> simp [h0, h1] <;> omega
  have h1 := sumE_term hnn he
  have h2 : s a - s b ≤ (ind (fun v => decide (t ≤ s v)) e.f0 - ind (fun v => decide (t ≤ s v)) e.f1) * (s e.f0 - s e.f1) := by
    unfold ind
    rcases hx with ⟨x0, x1⟩ | ⟨x0, x1⟩
    · subst x0; subst x1
      have h1 : ¬ t ≤ s e.f1 := by omega
      simp [ha, h1]
    · subst x0; subst x1
      have h1 : ¬ t ≤ s e.f0 := by omega
      simp [ha, h1]
      omega
  omega
/-- From a set that is not all and not closed an edge leads out. -/
theorem exists_cut {es : List E} {S : Int → Prop} {a b : Int} (hab : Conn es a b) (ha : ¬ S a) (hb : S b) : ∃ u w, Adj es u w ∧ S u ∧ ¬ S w := by
  induction hab with
  | refl => exact absurd hb ha
  | @tail x y _ hadj ih =>
    by_cases hx : S x
    · exact ih hx
    · exact ⟨y, x, hadj.symm, hb, hx⟩
def below (n : Nat) (s : Int → Int) (t : Int) : Nat := (List.range n).countP (fun i => decide (s (i : Nat) < t))
/-- A script that is 0 at q, all of whose upper sets lose no more than C, is at most 6 C. -/
theorem script_le {n : Nat} {es : List E} (hes : ∀ e ∈ es, EOk n e) (hj : Joined n es) {q : Int} (hq : 0 ≤ q ∧ q < n) {s : Int → Int} {C : Int} (hC0 : 0 ≤ C) (hsq : s q ≤ 0)
    (hC : ∀ t : Int, 0 < t → sumN n (fun i => ind (fun v => decide (t ≤ s v)) i * lap es s i) ≤ C) : ∀ v : Int, 0 ≤ v → v < n → s v ≤ n * C := by
  have key : ∀ k : Nat, ∀ v : Int, 0 ≤ v → v < n → below n s (s v) ≤ k → s v ≤ k * C := by
    intro k
    induction k with
    | zero =>
      intro v h0 h1 hk
      apply Classical.byContradiction
      intro hc
      have hpos : 0 < below n s (s v) := by
        unfold below
        rw [List.countP_pos_iff]
        refine ⟨q.toNat, List.mem_range.2 (by omega), ?_⟩
        have : ((q.toNat : Nat) : Int) = q := by omega
        rw [this]
        simp
        omega
      omega
    | succ k ih =>
      intro v h0 h1 hk
      by_cases hpos : s v ≤ 0
      · have : 0 ≤ ((k + 1 : Nat) : Int) * C := Int.mul_nonneg (by omega) hC0
        omega
      · have hqv : Conn es q v := ((hj q hq.1 hq.2).symm).trans (hj v h0 h1)
        obtain ⟨u, w, hadj, hu, hw⟩ := exists_cut (S := fun x => s v ≤ s x) hqv (by omega) (Int.le_refl _)
        have hcut := cut_le hes (hC (s v) (by omega)) hadj hu (by omega)
        have hw0 := EsOk.adj hes hadj
        have hlt : below n s (s w) < below n s (s v) := by
          refine countP_lt (fun x _ hx => ?_) ⟨w.toNat, List.mem_range.2 (by omega), ?_, ?_⟩
          · simp only [decide_eq_true_eq] at hx ⊢
            omega
          · have : ((w.toNat : Nat) : Int) = w := by omega
            rw [this]; simp
          · have : ((w.toNat : Nat) : Int) = w := by omega
            rw [this]; simp; omega
        have := ih w hw0.1 hw0.2 (by omega)
        rw [Int.natCast_succ, Int.add_mul, Int.one_mul]
        omega
  intro v h0 h1
  refine key n v h0 h1 ?_
  have := List.countP_le_length (p := fun i => decide (s ((i : Nat) : Int) < s v)) (l := List.range n)
  rw [List.length_range] at this
  exact this
theorem script_bd {n : Nat} {es : List E} (hes : ∀ e ∈ es, EOk n e) (hj : Joined n es) {q : Int} (hq : 0 ≤ q ∧ q < n) {s : Int → Int} {c : Int} (hc : 0 ≤ c) (hsq : s q ≤ 0)
    (h : ∀ v : Int, 0 ≤ v → v < n → 0 < s v → lap es s v ≤ c) : ∀ v : Int, 0 ≤ v → v < n → s v ≤ n * (n * c) := by
  refine script_le hes hj hq (Int.mul_nonneg (by omega) hc) hsq ?_
  intro t ht
  rw [← sumN_const]
  apply sumN_le
  intro i hi
  unfold ind
  by_cases hx : t ≤ s i
  · simp only [hx, decide_true, if_true, Int.one_mul]
    exact h i (by omega) (by omega) (by omega)
  · simp only [hx, decide_false, Int.zero_mul, Bool.false_eq_true, if_false]
    exact hc
def valE (v : Int) (e : E) : Int := if e.f0 = v ∨ e.f1 = v then 1 else 0
/-- The number of edges at a vertex. -/
def val (es : List E) (v : Int) : Int := sumE es (valE v)
def multE (a b : Int) (e : E) : Int := if (e.f0 = a ∧ e.f1 = b) ∨ (e.f0 = b ∧ e.f1 = a) then 1 else 0
/-- The number of edges between two vertices. -/
def mult (es : List E) (a b : Int) : Int := sumE es (multE a b)
theorem val_nonneg (es : List E) (v : Int) : 0 ≤ val es v := sumE_nonneg fun e _ => by unfold valE; split <;> omega
theorem mult_nonneg (es : List E) (a b : Int) : 0 ≤ mult es a b := sumE_nonneg fun e _ => by unfold multE; split <;> omega
theorem sumE_len {es : List E} {f : E → Int} (h : ∀ e ∈ es, f e ≤ 1) : sumE es f ≤ es.length := by
  induction es with
  | nil => simp [sumE]
  | cons e r ih =>
    rw [sumE_cons]
    have := ih (fun x hx => h x (List.mem_cons_of_mem _ hx))
    have := h e List.mem_cons_self
    simp only [List.length_cons]
    omega
theorem val_le (es : List E) (v : Int) : val es v ≤ es.length := sumE_len fun e _ => by unfold valE; split <;> omega
theorem mult_le (es : List E) (a b : Int) : mult es a b ≤ es.length := sumE_len fun e _ => by unfold multE; split <;> omega
/-- One vertex fires: it loses its valence. -/
theorem lap_one_self {n : Int} {es : List E} (hes : ∀ e ∈ es, EOk n e) (v t : Int) : lap es (one v t) v = t * val es v := by
  unfold lap val
  rw [← sumE_mul]
  apply sumE_congr
  intro e he
  have hk := hes e he
  unfold EOk at hk
  unfold lapE valE one
  by_cases a : e.f0 = v
  · have b : ¬ e.f1 = v := by omega
    simp [a, b]
  · by_cases b : e.f1 = v
    · simp [a, b]
    · simp [a, b]
/-- .. and another one gains along their edges. -/
theorem lap_one_ne {n : Int} {es : List E} (hes : ∀ e ∈ es, EOk n e) {v w : Int} (hvw : w ≠ v) (t : Int) : lap es (one v t) w = - (t * mult es v w) := by
  unfold lap mult
  rw [← sumE_mul, ← sumE_neg]
  apply sumE_congr
  intro e he
  have hk := hes e he
  unfold EOk at hk
  unfold lapE multE one
  by_cases a : e.f0 = w
  · have b : ¬ e.f1 = w := by omega
    have c : ¬ e.f0 = v := by omega
    by_cases x : e.f1 = v
    · simp [a, x]; omega
    · simp [a, b, x, hvw]
  · by_cases b : e.f1 = w
    · have c : ¬ e.f1 = v := by omega
      by_cases x : e.f0 = v
      · simp [a, b, x]; omega
      · simp [a, b, x, hvw]
    · simp [a, b]
theorem val_pos {n : Nat} {es : List E} (hj : Joined n es) {q v : Int} (hq : 0 ≤ q ∧ q < n) (hv : 0 ≤ v ∧ v < n) (hne : v ≠ q) : 0 < val es v := by
  have hc : Conn es q v := ((hj q hq.1 hq.2).symm).trans (hj v hv.1 hv.2)
  obtain ⟨u, w, ⟨e, he, hx⟩, hu, hw⟩ := exists_cut (S := fun x => x = v) hc (fun h => hne h.symm) rfl
  subst hu
  have h1 := sumE_term (f := valE u) (fun e _ => by unfold valE; split <;> omega) he
  have h2 : valE u e = 1 := by
    unfold valE
    rw [if_pos]
    rcases hx with ⟨a, _⟩ | ⟨_, b⟩
    · exact .inl a
    · exact .inr b
  unfold val
  omega
/-- s is reached from p by toppling unstable vertices other than q. -/
inductive Legal (n : Nat) (es : List E) (q : Int) (p : Int → Int) : (Int → Int) → Prop
  | zero : Legal n es q p (fun _ => 0)
  | step {s : Int → Int} {v : Int} : Legal n es q p s → 0 ≤ v → v < n → v ≠ q → val es v ≤ p v - lap es s v → Legal n es q p (fun w => s w + one v 1 w)
theorem lap_le_zero {es : List E} {r : Int → Int} {v : Int} (h : ∀ w, 0 ≤ r w) (hv : r v = 0) : lap es r v ≤ 0 := by
  have := sumE_le (es := es) (f := lapE r v) (g := fun _ => 0) (fun e _ => by
    unfold lapE
    have h0 := h e.f0
    have h1 := h e.f1
    by_cases a : e.f0 = v
    · by_cases b : e.f1 = v
      · simp [a, b]
      · rw [if_pos a, if_neg b, a, hv]; omega
    · by_cases b : e.f1 = v
      · rw [if_neg a, if_pos b, b, hv]; omega
      · rw [if_neg a, if_neg b]; omega)
  rw [sumE_zero (fun _ _ => rfl)] at this
  exact this
theorem Legal.nonneg {n : Nat} {es : List E} {q : Int} {p s : Int → Int} (h : Legal n es q p s) : (∀ w, 0 ≤ s w) ∧ s q = 0 := by
  induction h with
  | zero => exact ⟨fun _ => Int.le_refl _, rfl⟩
  | @step s v _ _ _ hq _ ih =>
    refine ⟨fun w => ?_, ?_⟩
    · have := ih.1 w
      show 0 ≤ s w + one v 1 w
      unfold one
      split <;> omega
    · have := ih.2
      show s q + one v 1 q = 0
      unfold one
      rw [if_neg (fun x : q = v => hq x.symm)]
      omega
/-- Several topplings of one vertex at once. -/
theorem Legal.many {n : Nat} {es : List E} (hes : ∀ e ∈ es, EOk n e) {q : Int} {p s : Int → Int} (h : Legal n es q p s) {v : Int} (h0 : 0 ≤ v) (h1 : v < n) (hq : v ≠ q) : ∀ k : Nat, k * val es v ≤ p v - lap es s v → Legal n es q p (fun w => s w + one v k w)
  | 0, _ => by
    have : (fun w => s w + one v ((0 : Nat) : Int) w) = s := by
      funext w
      unfold one
      split <;> simp
    rw [this]
    exact h
  | k + 1, hk => by
    have hv := val_nonneg es v
    rw [Int.natCast_succ, Int.add_mul] at hk
    have ih := Legal.many hes h h0 h1 hq k (by omega)
    have := Legal.step ih h0 h1 hq (by
      rw [lap_add, lap_one_self hes]
      omega)
    have e : (fun w => s w + one v ((k + 1 : Nat) : Int) w) = fun w => s w + one v (k : Int) w + one v 1 w := by
      funext w
      unfold one
      split <;> omega
    rw [e]
    exact this
end Go.Proofs.Ytgobnfeahffnaaa.Cf
end

section
namespace Go.Proofs.Ytgobnfeahffnaaa.P
open Go.RowKit Go.Proofs.YtgobnfeahffnaaaW.PrintWords Go.Proofs.YtgobnfeahffnaaaW.PrintLast Go.Proofs.YtgobnfeahffnaaaW.PrintMore
attribute [local go_sem] max2_int min2_int max_two min_two max_three min_three max_four min_four
set_option linter.unusedVariables false
set_option linter.unusedSimpArgs false
mutual
def spec_DivisorOk.j0 : Nat → List Int → Bool → Option (Bool)
 | 0, _, _ => none
 | k + 1, x1, x16 => if x16 = true then (some false) else (spec_DivisorOk.l0 k x1 (x1.length : Int) 0)
def spec_DivisorOk.l0 : Nat → List Int → Int → Int → Option (Bool)
 | 0, _, _, _ => none
 | k + 1, x17, x18, x19 => if x19 < x18 then (if 0 ≤ x19 then (if x19 < (x17.length : Int) then ((spec_l01In.f (rd x17 x19) (-60) 60).bind fun t104 => (if t104 = true then (spec_DivisorOk.l0 k x17 x18 (wrap64 (x19 + 1))) else (some false))) else (none)) else (none)) else (some true)
end
def spec_DivisorOk.f (k : Nat) (a0_0 : Int) (l0_1 : List (S83)) (l1 : List Int) : Option (Bool) := (spec_GraphOk.f k a0_0 l0_1).bind fun t102 => (if t102 = true then (spec_DivisorOk.j0 k l1 ((l1.length : Int) != a0_0)) else (spec_DivisorOk.j0 k l1 true))
theorem spec_DivisorOk.mono_l : ∀ k, (∀ y0 y1, LeO (spec_DivisorOk.j0 k y0 y1) (spec_DivisorOk.j0 (k + 1) y0 y1)) ∧ (∀ y0 y1 y2, LeO (spec_DivisorOk.l0 k y0 y1 y2) (spec_DivisorOk.l0 (k + 1) y0 y1 y2))
 | 0 => ⟨fun _ _ r h => by simp [spec_DivisorOk.j0] at h, fun _ _ _ r h => by simp [spec_DivisorOk.l0] at h⟩
 | k + 1 => by
  obtain ⟨ih0, ih1⟩ := spec_DivisorOk.mono_l k
  refine ⟨?_, ?_⟩
  ·intro y0 y1
   unfold spec_DivisorOk.j0
   exact zm8
  ·intro y0 y1 y2
   unfold spec_DivisorOk.l0
   exact zm8
theorem spec_DivisorOk.mono : ∀ a0 a1 a2 k, LeO (spec_DivisorOk.f k a0 a1 a2) (spec_DivisorOk.f (k + 1) a0 a1 a2) := by
 intro a0 a1 a2 k; obtain ⟨ih0, ih1⟩ := spec_DivisorOk.mono_l k; unfold spec_DivisorOk.f; exact zm8
end Go.Proofs.Ytgobnfeahffnaaa.P
end

section
namespace Go.Proofs.Ytgobnfeahffnaaa.P
open Go.RowKit Go.Proofs.YtgobnfeahffnaaaW.PrintWords Go.Proofs.YtgobnfeahffnaaaW.PrintLast Go.Proofs.YtgobnfeahffnaaaW.PrintMore
attribute [local go_sem] max2_int min2_int max_two min_two max_three min_three max_four min_four
set_option linter.unusedVariables false
set_option linter.unusedSimpArgs false
def spec_IsEffective.l0 : Nat → List Int → Int → Int → Option (Bool)
 | 0, _, _, _ => none
 | k + 1, x5, x6, x7 => if x7 < x6 then (if 0 ≤ x7 then (if x7 < (x5.length : Int) then (if (rd x5 x7) < 0 then (some false) else (spec_IsEffective.l0 k x5 x6 (wrap64 (x7 + 1)))) else (none)) else (none)) else (some true)
def spec_IsEffective.f (k : Nat) (l0 : List Int) : Option (Bool) := spec_IsEffective.l0 k l0 (l0.length : Int) 0
theorem spec_IsEffective.mono_l : ∀ k, (∀ y0 y1 y2, LeO (spec_IsEffective.l0 k y0 y1 y2) (spec_IsEffective.l0 (k + 1) y0 y1 y2))
 | 0 => fun _ _ _ r h => by simp [spec_IsEffective.l0] at h
 | k + 1 => by
  have ih0 := spec_IsEffective.mono_l k
  ·intro y0 y1 y2
   unfold spec_IsEffective.l0
   exact zm0
theorem spec_IsEffective.mono : ∀ a0 k, LeO (spec_IsEffective.f k a0) (spec_IsEffective.f (k + 1) a0) := by
 intro a0 k; have ih0 := spec_IsEffective.mono_l k; unfold spec_IsEffective.f; exact zm0
def impl_IsEffective.l0 : Nat → List Int → Int → Int → Option (Bool)
 | 0, _, _, _ => none
 | k + 1, x5, x6, x7 => if x7 < x6 then (if 0 ≤ x7 then (if x7 < (x5.length : Int) then (if (rd x5 x7) < 0 then (some false) else (impl_IsEffective.l0 k x5 x6 (wrap64 (x7 + 1)))) else (none)) else (none)) else (some true)
def impl_IsEffective.f (k : Nat) (l0 : List Int) : Option (Bool) := impl_IsEffective.l0 k l0 (l0.length : Int) 0
theorem impl_IsEffective.mono_l : ∀ k, (∀ y0 y1 y2, LeO (impl_IsEffective.l0 k y0 y1 y2) (impl_IsEffective.l0 (k + 1) y0 y1 y2))
 | 0 => fun _ _ _ r h => by simp [impl_IsEffective.l0] at h
 | k + 1 => by
  have ih0 := impl_IsEffective.mono_l k
  ·intro y0 y1 y2
   unfold impl_IsEffective.l0
   exact zm0
theorem impl_IsEffective.mono : ∀ a0 k, LeO (impl_IsEffective.f k a0) (impl_IsEffective.f (k + 1) a0) := by
 intro a0 k; have ih0 := impl_IsEffective.mono_l k; unfold impl_IsEffective.f; exact zm0
def spec_PileOk.f (k : Nat) (a0_0 : Int) (l0_1 : List (S83)) (l1 : List Int) (a2 : Int) : Option (Bool) := (spec_DivisorOk.f k a0_0 l0_1 l1).bind fun t102 => (if t102 = true then ((spec_l01In.f a2 0 (wrap64 (a0_0 - 1))).bind fun t103 => (if t103 = true then ((spec_IsEffective.f k l1).bind fun t104 => (if t104 = true then (if 0 ≤ a2 then (if a2 < (l1.length : Int) then (some ((rd l1 a2) == 0)) else (none)) else (none)) else (some false))) else (some false))) else (some false))
theorem spec_PileOk.mono : ∀ a0 a1 a2 a3 k, LeO (spec_PileOk.f k a0 a1 a2 a3) (spec_PileOk.f (k + 1) a0 a1 a2 a3) := by
 intro a0 a1 a2 a3 k; unfold spec_PileOk.f; repeat' first | (with_reducible apply spec_DivisorOk.mono) | (with_reducible apply spec_IsEffective.mono) | (with_reducible exact LeO.refl _) | (with_reducible exact LeO.none _) | (with_reducible refine LeO.ite ?_ ?_) | (with_reducible refine LeO.bind ?_ (fun _ => ?_)) | apply spec_DivisorOk.mono | apply spec_IsEffective.mono | exact LeO.none _ | refine LeO.ite ?_ ?_ | refine LeO.bind ?_ (fun _ => ?_)
def impl_PileOk.f (k : Nat) (a0_0 : Int) (l0_1 : List (S83)) (l1 : List Int) (a2 : Int) : Option (Bool) := (impl_DivisorOk.f k a0_0 l0_1 l1).bind fun t102 => (if t102 = true then ((impl_within.f a2 0 (wrap64 (a0_0 - 1))).bind fun t103 => (if t103 = true then ((impl_IsEffective.f k l1).bind fun t104 => (if t104 = true then (if 0 ≤ a2 then (if a2 < (l1.length : Int) then (some ((rd l1 a2) == 0)) else (none)) else (none)) else (some false))) else (some false))) else (some false))
theorem impl_PileOk.mono : ∀ a0 a1 a2 a3 k, LeO (impl_PileOk.f k a0 a1 a2 a3) (impl_PileOk.f (k + 1) a0 a1 a2 a3) := by
 intro a0 a1 a2 a3 k; unfold impl_PileOk.f; repeat' first | (with_reducible apply impl_DivisorOk.mono) | (with_reducible apply impl_IsEffective.mono) | (with_reducible exact LeO.refl _) | (with_reducible exact LeO.none _) | (with_reducible refine LeO.ite ?_ ?_) | (with_reducible refine LeO.bind ?_ (fun _ => ?_)) | apply impl_DivisorOk.mono | apply impl_IsEffective.mono | exact LeO.none _ | refine LeO.ite ?_ ?_ | refine LeO.bind ?_ (fun _ => ?_)
def spec_Valence.l0 : Nat → Int → Int → List (S83) → Int → Int → Option (Int)
 | 0, _, _, _, _, _ => none
 | k + 1, x1, x5, x13, x14, x15 => if x15 < x14 then (if 0 ≤ x15 then (if x15 < (x13.length : Int) then (if ((rd_T83 x13 x15).f0) = x1 then (spec_Valence.l0 k x1 (wrap64 (x5 + 1)) x13 x14 (wrap64 (x15 + 1))) else (if ((rd_T83 x13 x15).f1) = x1 then (spec_Valence.l0 k x1 (wrap64 (x5 + 1)) x13 x14 (wrap64 (x15 + 1))) else (spec_Valence.l0 k x1 x5 x13 x14 (wrap64 (x15 + 1))))) else (none)) else (none)) else (some x5)
def spec_Valence.f (k : Nat) (a0_0 : Int) (l0_1 : List (S83)) (a1 : Int) : Option (Int) := (spec_l02Vert.f a0_0 l0_1 a1).bind fun t102 => (if t102 = true then (spec_Valence.l0 k a1 0 l0_1 (l0_1.length : Int) 0) else (some 0))
theorem spec_Valence.mono_l : ∀ k, (∀ y0 y1 y2 y3 y4, LeO (spec_Valence.l0 k y0 y1 y2 y3 y4) (spec_Valence.l0 (k + 1) y0 y1 y2 y3 y4))
 | 0 => fun _ _ _ _ _ r h => by simp [spec_Valence.l0] at h
 | k + 1 => by
  have ih0 := spec_Valence.mono_l k
  ·intro y0 y1 y2 y3 y4
   unfold spec_Valence.l0
   exact zm0
theorem spec_Valence.mono : ∀ a0 a1 a2 k, LeO (spec_Valence.f k a0 a1 a2) (spec_Valence.f (k + 1) a0 a1 a2) := by
 intro a0 a1 a2 k; have ih0 := spec_Valence.mono_l k; unfold spec_Valence.f; exact zm0
end Go.Proofs.Ytgobnfeahffnaaa.P
end

section
namespace Go.Proofs.Ytgobnfeahffnaaa.Cf
set_option linter.unusedVariables false
set_option linter.unusedSimpArgs false
open Go.RowKit Go.Proofs.YtgobnfeahffnaaaW.PrintWords Go.Proofs.Ytgobnfeahffnaaa.P
/-- A divisor. -/
def dOk (n : Int) (es : List E) (d : List Int) : Bool := gOk n es && (decide ((d.length : Int) = n) && decide (∀ x ∈ d, -60 ≤ x ∧ x ≤ 60))
theorem dOk_iff {n : Int} {es : List E} {d : List Int} : dOk n es d = true ↔ GOk n es ∧ (d.length : Int) = n ∧ ∀ x ∈ d, -60 ≤ x ∧ x ≤ 60 := by
  unfold dOk
  simp only [Bool.and_eq_true, decide_eq_true_eq, gOk_iff]
theorem implDiv (n : Int) (es : List E) (d : List Int) (hl : d.length ≤ 1048576) : Ep (fun k => impl_DivisorOk.f k n es d) (· = dOk n es d) := by
  simp only [impl_DivisorOk.f, dOk]
  refine Ep.bind0 (implGraph n es) (Ep.ite (fun hg => ?_) (fun hg => Ep.now ?_))
  · refine Ep.ite (fun h => ?_) (fun h => Ep.now ?_)
    · refine Ep.bind (allWithin_ok d (-60) 60 hl) ?_
      rintro _ rfl
      refine Ep.now ?_
      rw [hg]
      simp only [h, decide_true, Bool.true_and]
    · simp [h]
  · have : gOk n es = false := by simpa using hg
    simp [this]
/-- The valence, 0 where there is no such vertex. -/
def valG (n : Int) (es : List E) (v : Int) : Int := if 0 ≤ v ∧ v < n then val es v else 0
theorem val_drop {es : List E} {i : Nat} (h : i < es.length) (v : Int) : val (es.drop i) v = valE v es[i] + val (es.drop (i + 1)) v := by
  rw [List.drop_eq_getElem_cons h]
  exact sumE_cons _ _ _
theorem implVal_loop (v : Int) (es : List E) (hl : es.length ≤ 1048576) : ∀ (d i : Nat) (a : Int), i + d = es.length → 0 ≤ a → a ≤ i → Ep (fun k => impl_Valence.l0 k v a es (es.length : Int) (i : Int)) (· = a + val (es.drop i) v) := by
  intro d
  induction d with
  | zero =>
    intro i a hi h0 ha
    refine Ep.up ?_
    simp only [impl_Valence.l0]
    refine Ep.neg (by omega) (Ep.now ?_)
    rw [List.drop_of_length_le (by omega)]
    simp [val, sumE]
  | succ d ih =>
    intro i a hi h0 ha
    have hlt : i < es.length := by omega
    refine Ep.up ?_
    simp only [impl_Valence.l0]
    refine Ep.pos (by omega) (Ep.pos (by omega) (Ep.pos (by omega) ?_))
    rw [rdE_get hlt, wrap_succ (by omega), wrap_id (x := a + 1) (by omega) (by omega), val_drop hlt]
    refine Ep.ite (fun h => ?_) (fun h => Ep.ite (fun h2 => ?_) (fun h2 => ?_))
    · refine (ih (i + 1) (a + 1) (by omega) (by omega) (by omega)).mono ?_
      rintro _ rfl
      unfold valE
      rw [if_pos (.inl h)]
      omega
    · refine (ih (i + 1) (a + 1) (by omega) (by omega) (by omega)).mono ?_
      rintro _ rfl
      unfold valE
      rw [if_pos (.inr h2)]
      omega
    · refine (ih (i + 1) a (by omega) h0 (by omega)).mono ?_
      rintro _ rfl
      unfold valE
      rw [if_neg (by rintro (x | x); exact h x; exact h2 x)]
      omega
theorem implValence (n : Int) (es : List E) (v : Int) (hl : es.length ≤ 1048576) : Ep (fun k => impl_Valence.f k n es v) (· = valG n es v) := by
  simp only [impl_Valence.f, valG]
  refine Ep.ite (fun h => ?_) (fun h => ?_)
  · refine Ep.up ?_
    simp only [impl_Valence.j0]
    refine Ep.pos trivial (Ep.now ?_)
    rw [if_neg (by omega)]
  · refine Ep.up ?_
    simp only [impl_Valence.j0]
    refine Ep.ite (fun h2 => Ep.now ?_) (fun h2 => ?_)
    · have : v ≥ n := by simpa using h2
      rw [if_neg (by omega)]
    · have : ¬ v ≥ n := by simpa using h2
      refine (implVal_loop v es hl es.length 0 0 (by omega) (by omega) (by omega)).mono ?_
      rintro _ rfl
      rw [if_pos (by omega), List.drop_zero]
      omega
end Go.Proofs.Ytgobnfeahffnaaa.Cf
end

section
namespace Go.Proofs.Ytgobnfeahffnaaa.P
open Go.RowKit Go.Proofs.YtgobnfeahffnaaaW.PrintWords Go.Proofs.YtgobnfeahffnaaaW.PrintLast Go.Proofs.YtgobnfeahffnaaaW.PrintMore
attribute [local go_sem] max2_int min2_int max_two min_two max_three min_three max_four min_four
set_option linter.unusedVariables false
set_option linter.unusedSimpArgs false
def spec_l10Unstable.l0 : Nat → Int → List Int → Int → Int → Int → List (S83) → Option (Int)
 | 0, _, _, _, _, _, _ => none
 | k + 1, x2, x9, x10, x11, x102000, x102001 => if x11 < x10 then (if 0 ≤ x11 then (if x11 < (x9.length : Int) then (if x11 = x2 then (spec_l10Unstable.l0 k x2 x9 x10 (wrap64 (x11 + 1)) x102000 x102001) else ((spec_Valence.f k x102000 x102001 x11).bind fun t103 => (if (rd x9 x11) ≥ t103 then (some x11) else (spec_l10Unstable.l0 k x2 x9 x10 (wrap64 (x11 + 1)) x102000 x102001)))) else (none)) else (none)) else (some (-1))
def spec_l10Unstable.f (k : Nat) (a0_0 : Int) (l0_1 : List (S83)) (l1 : List Int) (a2 : Int) : Option (Int) := spec_l10Unstable.l0 k a2 l1 (l1.length : Int) 0 a0_0 l0_1
theorem spec_l10Unstable.mono_l : ∀ k, (∀ y0 y1 y2 y3 y4 y5, LeO (spec_l10Unstable.l0 k y0 y1 y2 y3 y4 y5) (spec_l10Unstable.l0 (k + 1) y0 y1 y2 y3 y4 y5))
 | 0 => fun _ _ _ _ _ _ r h => by simp [spec_l10Unstable.l0] at h
 | k + 1 => by
  have ih0 := spec_l10Unstable.mono_l k
  ·intro y0 y1 y2 y3 y4 y5
   unfold spec_l10Unstable.l0
   exact zm23
theorem spec_l10Unstable.mono : ∀ a0 a1 a2 a3 k, LeO (spec_l10Unstable.f k a0 a1 a2 a3) (spec_l10Unstable.f (k + 1) a0 a1 a2 a3) := by
 intro a0 a1 a2 a3 k; have ih0 := spec_l10Unstable.mono_l k; unfold spec_l10Unstable.f; exact zm23
def impl_unstable.l0 : Nat → Int → List Int → Int → Int → Int → List (S83) → Option (Int)
 | 0, _, _, _, _, _, _ => none
 | k + 1, x2, x9, x10, x11, x102000, x102001 => if x11 < x10 then (if 0 ≤ x11 then (if x11 < (x9.length : Int) then (if x11 = x2 then (impl_unstable.l0 k x2 x9 x10 (wrap64 (x11 + 1)) x102000 x102001) else ((impl_Valence.f k x102000 x102001 x11).bind fun t103 => (if (rd x9 x11) ≥ t103 then (some x11) else (impl_unstable.l0 k x2 x9 x10 (wrap64 (x11 + 1)) x102000 x102001)))) else (none)) else (none)) else (some (-1))
def impl_unstable.f (k : Nat) (a0_0 : Int) (l0_1 : List (S83)) (l1 : List Int) (a2 : Int) : Option (Int) := impl_unstable.l0 k a2 l1 (l1.length : Int) 0 a0_0 l0_1
theorem impl_unstable.mono_l : ∀ k, (∀ y0 y1 y2 y3 y4 y5, LeO (impl_unstable.l0 k y0 y1 y2 y3 y4 y5) (impl_unstable.l0 (k + 1) y0 y1 y2 y3 y4 y5))
 | 0 => fun _ _ _ _ _ _ r h => by simp [impl_unstable.l0] at h
 | k + 1 => by
  have ih0 := impl_unstable.mono_l k
  ·intro y0 y1 y2 y3 y4 y5
   unfold impl_unstable.l0
   exact zm9
theorem impl_unstable.mono : ∀ a0 a1 a2 a3 k, LeO (impl_unstable.f k a0 a1 a2 a3) (impl_unstable.f (k + 1) a0 a1 a2 a3) := by
 intro a0 a1 a2 a3 k; have ih0 := impl_unstable.mono_l k; unfold impl_unstable.f; exact zm9
def impl_IsStable.f (k : Nat) (a0_0 : Int) (l0_1 : List (S83)) (l1 : List Int) (a2 : Int) : Option (Bool) := (impl_PileOk.f k a0_0 l0_1 l1 a2).bind fun t102 => (if t102 = true then ((impl_unstable.f k a0_0 l0_1 l1 a2).bind fun t103 => (some (decide (t103 < 0)))) else (some false))
theorem impl_IsStable.mono : ∀ a0 a1 a2 a3 k, LeO (impl_IsStable.f k a0 a1 a2 a3) (impl_IsStable.f (k + 1) a0 a1 a2 a3) := by
 intro a0 a1 a2 a3 k; unfold impl_IsStable.f; repeat' first | (with_reducible apply impl_PileOk.mono) | (with_reducible apply impl_unstable.mono) | (with_reducible exact LeO.refl _) | (with_reducible exact LeO.none _) | (with_reducible refine LeO.ite ?_ ?_) | (with_reducible refine LeO.bind ?_ (fun _ => ?_)) | apply impl_PileOk.mono | apply impl_unstable.mono | exact LeO.none _ | refine LeO.ite ?_ ?_ | refine LeO.bind ?_ (fun _ => ?_)
end Go.Proofs.Ytgobnfeahffnaaa.P
end

section
namespace Go.Proofs.Ytgobnfeahffnaaa.Cf
set_option linter.unusedVariables false
set_option linter.unusedSimpArgs false
/-- The edges from v to a list of vertices. -/
def burnSum (es : List E) (b : List Int) (v : Int) : Int := (b.map (mult es v)).sum
inductive Burn (n : Nat) (es : List E) (d : Int → Int) (q : Int) : List Int → Prop
  | start : Burn n es d q [q]
  | step {b : List Int} {v : Int} : Burn n es d q b → 0 ≤ v → v < n → v ∉ b → d v < burnSum es b v → Burn n es d q (b ++ [v])
theorem Burn.ok {n : Nat} {es : List E} {d : Int → Int} {q : Int} {b : List Int} (hq : 0 ≤ q ∧ q < n) (h : Burn n es d q b) : b.Nodup ∧ (∀ v ∈ b, 0 ≤ v ∧ v < n) ∧ q ∈ b := by
  induction h with
  | start => exact ⟨by simp, fun v hv => by rw [List.mem_singleton.1 hv]; exact hq, by simp⟩
  | @step b v _ h0 h1 hv _ ih =>
    refine ⟨?_, fun x hx => ?_, List.mem_append_left _ ih.2.2⟩
    · rw [List.nodup_append]
      exact ⟨ih.1, by simp, fun a ha c hc => by
        rw [List.mem_singleton.1 hc]
        rintro rfl
        exact hv ha⟩
    · rcases List.mem_append.1 hx with hx | hx
      · exact ih.2.1 x hx
      · rw [List.mem_singleton.1 hx]
        exact ⟨h0, h1⟩
theorem Burn.len {n : Nat} {es : List E} {d : Int → Int} {q : Int} {b : List Int} (hq : 0 ≤ q ∧ q < n) (h : Burn n es d q b) : b.length ≤ n := nodup_len n b (h.ok hq).1 (h.ok hq).2.1
theorem sum_ind (x : Int) : ∀ (b : List Int), b.Nodup → (b.map (fun w => if x = w then (1 : Int) else 0)).sum = if x ∈ b then 1 else 0
  | [], _ => by simp
  | a :: r, h => by
    have ih := sum_ind x r (List.nodup_cons.1 h).2
    have hn := (List.nodup_cons.1 h).1
    simp only [List.map_cons, List.sum_cons, ih, List.mem_cons]
    by_cases e : x = a
    · subst e
      simp [hn]
    · simp [e]
theorem sum_zero (b : List Int) : (b.map (fun _ => (0 : Int))).sum = 0 := by
  induction b with
  | nil => rfl
  | cons a r ih => simp only [List.map_cons, List.sum_cons, ih]; rfl
theorem sum_add (b : List Int) (f g : Int → Int) : (b.map (fun w => f w + g w)).sum = (b.map f).sum + (b.map g).sum := by
  induction b with
  | nil => rfl
  | cons a r ih => simp only [List.map_cons, List.sum_cons, ih]; omega
/-- What does not burn takes as much as burns at its edges. -/
theorem burnSum_lap {n : Int} {es : List E} (hes : ∀ e ∈ es, EOk n e) {b : List Int} (hb : b.Nodup) {v : Int} (hv : v ∉ b) : burnSum es b v = lap es (ind (fun x => decide (x ∉ b))) v := by
  induction es with
  | nil =>
    unfold burnSum
    rw [lap_nil]
    exact sum_zero b
  | cons e r ih =>
    have ih := ih (fun x hx => hes x (List.mem_cons_of_mem _ hx))
    have hk := hes e List.mem_cons_self
    unfold EOk at hk
    have h1 : burnSum (e :: r) b v = (b.map (fun w => multE v w e)).sum + burnSum r b v := by
      unfold burnSum
      rw [← sum_add]
      congr 1
    rw [h1, ih, lap_cons]
    congr 1
    unfold lapE ind multE
    by_cases a : e.f0 = v
    · have c : ¬ e.f1 = v := by omega
      have key : (b.map (fun w => if (e.f0 = v ∧ e.f1 = w) ∨ (e.f0 = w ∧ e.f1 = v) then (1 : Int) else 0)).sum = if e.f1 ∈ b then 1 else 0 := by
        rw [← sum_ind e.f1 b hb]
        congr 1
        apply List.map_congr_left
        intro w _
        simp [a, c]
      rw [key, if_pos a, if_neg c, a]
      by_cases m : e.f1 ∈ b <;> simp [m, hv]
    · by_cases c : e.f1 = v
      · have key : (b.map (fun w => if (e.f0 = v ∧ e.f1 = w) ∨ (e.f0 = w ∧ e.f1 = v) then (1 : Int) else 0)).sum = if e.f0 ∈ b then 1 else 0 := by
          rw [← sum_ind e.f0 b hb]
          congr 1
          apply List.map_congr_left
          intro w _
          simp [a, c]
        rw [key, if_neg a, if_pos c, c]
        by_cases m : e.f0 ∈ b <;> simp [m, hv]
      · have key : (b.map (fun w => if (e.f0 = v ∧ e.f1 = w) ∨ (e.f0 = w ∧ e.f1 = v) then (1 : Int) else 0)).sum = 0 := by
          exact (congrArg List.sum (List.map_congr_left (g := fun _ => (0 : Int)) (fun w _ => by simp [a, c]))).trans (sum_zero b)
        rw [key, if_neg a, if_neg c]
        rfl
/-- A lesser set takes more. -/
theorem lap_ind_mono {es : List E} {S T : Int → Bool} {v : Int} (hv : S v = true) (hw : T v = true) (h : ∀ x, S x = true → T x = true) : lap es (ind T) v ≤ lap es (ind S) v := by
  apply sumE_le
  intro e _
  have h0 := h e.f0
  have h1 := h e.f1
  unfold lapE ind
  by_cases a : e.f0 = v
  · by_cases b : e.f1 = v
    · simp [a, b]
    · rw [if_pos a, if_pos a, if_neg b, if_neg b, a, hv, hw]
      cases hs : S e.f1 <;> cases ht : T e.f1 <;> simp_all
  · by_cases b : e.f1 = v
    · rw [if_neg a, if_neg a, if_pos b, if_pos b, b, hv, hw]
      cases hs : S e.f0 <;> cases ht : T e.f0 <;> simp_all
    · rw [if_neg a, if_neg a, if_neg b, if_neg b]
      exact Int.le_refl _
theorem Burn.meets {n : Nat} {es : List E} (hes : ∀ e ∈ es, EOk n e) {d : Int → Int} {q : Int} (hq : 0 ≤ q ∧ q < n) {b : List Int} (h : Burn n es d q b) {S : Int → Bool} (hS : S q = false) : (∀ v ∈ b, S v = false) ∨ ∃ v : Int, 0 ≤ v ∧ v < n ∧ S v = true ∧ d v < lap es (ind S) v := by
  induction h with
  | start => exact .inl (fun v hv => by rw [List.mem_singleton.1 hv]; exact hS)
  | @step b v hb h0 h1 hv hlt ih =>
    rcases ih with ih | ih
    · by_cases hx : S v = true
      · right
        refine ⟨v, h0, h1, hx, ?_⟩
        rw [burnSum_lap hes (hb.ok hq).1 hv] at hlt
        have := lap_ind_mono (es := es) (S := S) (T := fun x => decide (x ∉ b)) hx (by simpa using hv) (fun x hx => by
          simp only [decide_eq_true_eq]
          intro hm
          rw [ih x hm] at hx
          cases hx)
        omega
      · left
        intro x hm
        rcases List.mem_append.1 hm with hm | hm
        · exact ih x hm
        · rw [List.mem_singleton.1 hm]
          simpa using hx
    · exact .inr ih
/-- All burn: the divisor is reduced. -/
theorem Burn.red {n : Nat} {es : List E} (hes : ∀ e ∈ es, EOk n e) {d : Int → Int} {q : Int} (hq : 0 ≤ q ∧ q < n) {b : List Int} (h : Burn n es d q b) (hl : b.length = n) (hd : ∀ v : Int, 0 ≤ v → v < n → v ≠ q → 0 ≤ d v) : Red n es q d := by
  refine ⟨hd, fun S hS hx => ?_⟩
  rcases h.meets hes hq hS with hb | hb
  · exfalso
    obtain ⟨v, h0, h1, hv⟩ := hx
    have : v ∈ b := by
      apply Classical.byContradiction
      intro hn
      have := nodup_len n (v :: b) (List.nodup_cons.2 ⟨hn, (h.ok hq).1⟩) (fun x hx => by
        rcases List.mem_cons.1 hx with rfl | hx
        · exact ⟨h0, h1⟩
        · exact (h.ok hq).2.1 x hx)
      simp at this
      omega
    rw [hb v this] at hv
    cases hv
  · exact hb
/-- A reduced divisor burns, however far the fire has come. -/
theorem Red.burns {n : Nat} {es : List E} (hes : ∀ e ∈ es, EOk n e) {d : Int → Int} {q : Int} (hq : 0 ≤ q ∧ q < n) {b : List Int} (h : Burn n es d q b) (hr : Red n es q d) (hl : b.length < n) : ∃ v : Int, 0 ≤ v ∧ v < n ∧ v ∉ b ∧ d v < burnSum es b v := by
  have hok := h.ok hq
  have hex : ∃ v : Int, 0 ≤ v ∧ v < n ∧ v ∉ b := by
    apply Classical.byContradiction
    intro hc
    have := len_nodup n b (fun i hi => by
      apply Classical.byContradiction
      intro hm
      exact hc ⟨i, by omega, by omega, hm⟩)
    omega
  obtain ⟨v, h0, h1, hv, hlt⟩ := hr.2 (fun x => decide (x ∉ b)) (by simpa using hok.2.2) (by obtain ⟨v, h0, h1, hv⟩ := hex; exact ⟨v, h0, h1, by simpa using hv⟩)
  have hv' : v ∉ b := by simpa using hv
  exact ⟨v, h0, h1, hv', by rw [burnSum_lap hes hok.1 hv']; exact hlt⟩
theorem sumE_bd {es : List E} {f : E → Int} {S : Int} (h : ∀ e ∈ es, -S ≤ f e ∧ f e ≤ S) : -(es.length * S) ≤ sumE es f ∧ sumE es f ≤ es.length * S := by
  induction es with
  | nil => simp [sumE]
  | cons e r ih =>
    rw [sumE_cons]
    have := ih (fun x hx => h x (List.mem_cons_of_mem _ hx))
    have := h e List.mem_cons_self
    rw [List.length_cons, Int.natCast_succ, Int.add_mul, Int.one_mul]
    omega
theorem lap_bd {n : Int} {es : List E} (hes : ∀ e ∈ es, EOk n e) (hel : es.length ≤ 12) {s : Int → Int} {L S : Int} (hS : 0 ≤ S) (h : ∀ v, 0 ≤ v → v < n → L ≤ s v ∧ s v ≤ L + S) (w : Int) : -(12 * S) ≤ lap es s w ∧ lap es s w ≤ 12 * S := by
  have h1 := sumE_bd (es := es) (f := lapE s w) (S := S) (fun e he => by
    have hk := hes e he
    unfold EOk at hk
    have h0 := h e.f0 (by omega) (by omega)
    have h1 := h e.f1 (by omega) (by omega)
    unfold lapE
    by_cases a : e.f0 = w
    · rw [if_pos a, if_neg (by omega)]; omega
    · rw [if_neg a]
      by_cases b : e.f1 = w
      · rw [if_pos b]; omega
      · rw [if_neg b]; omega)
  have h2 : (es.length : Int) * S ≤ 12 * S := Int.mul_le_mul_of_nonneg_right (by omega) hS
  unfold lap
  omega
theorem sumN_le_const {n : Nat} {f : Nat → Int} {c : Int} (h : ∀ i, i < n → f i ≤ c) : sumN n f ≤ n * c := by
  rw [← sumN_const]
  exact sumN_le h
theorem sumN_nonneg {n : Nat} {f : Nat → Int} (h : ∀ i, i < n → 0 ≤ f i) : 0 ≤ sumN n f := by
  have := sumN_le (n := n) (f := fun _ => 0) (g := f) h
  rw [sumN_zero] at this
  exact this
theorem one_nat (v t : Int) (i : Nat) : one v t (i : Int) = if (i : Int) = v then t else 0 := rfl
theorem sumN_one' {n : Nat} {v : Int} (h0 : 0 ≤ v) (h1 : v < n) (t : Int) : sumN n (fun i => one v t (i : Int)) = t := by
  have := sumN_one (n := n) v.toNat (by omega) t
  refine (sumN_congr fun i _ => ?_).trans this
  rw [one_nat]
  have : ((i : Int) = v) ↔ i = v.toNat := by omega
  simp only [this]
theorem Legal.keeps1 {n : Nat} {es : List E} (hes : ∀ e ∈ es, EOk n e) {q : Int} {p s : Int → Int} (h : Legal n es q p s) : ∀ v : Int, 0 ≤ v → v < n → 0 < s v → 0 ≤ p v - lap es s v := by
  induction h with
  | zero => intro v _ _ h; exact absurd h (by simp)
  | @step s u hl h0 h1 hq hv ih =>
    intro w k0 k1 hs
    rw [lap_add]
    by_cases e : w = u
    · subst e
      rw [lap_one_self hes]
      omega
    · rw [lap_one_ne hes e]
      have := mult_nonneg es u w
      have := ih w k0 k1 (by
        have hs' : 0 < s w + one u 1 w := hs
        unfold one at hs'
        rw [if_neg e] at hs'
        omega)
      omega
theorem Legal.bound1 {n : Nat} {es : List E} (hes : ∀ e ∈ es, EOk n e) (hj : Joined n es) {q : Int} (hq : 0 ≤ q ∧ q < n) {p s : Int → Int} (h : Legal n es q p s) {c : Int} (hc : 0 ≤ c) (hpc : ∀ v : Int, 0 ≤ v → v < n → v ≠ q → p v ≤ c) : ∀ v : Int, 0 ≤ v → v < n → s v ≤ n * (n * c) := by
  refine script_bd hes hj hq hc (by rw [h.nonneg.2]; exact Int.le_refl _) ?_
  intro v h0 h1 hs
  have hne : v ≠ q := by rintro rfl; rw [h.nonneg.2] at hs; omega
  have := h.keeps1 hes v h0 h1 hs
  have := hpc v h0 h1 hne
  omega
theorem sq_le {n : Nat} (hn : n ≤ 6) {c : Int} (hc : 0 ≤ c) : (n : Int) * (n * c) ≤ 36 * c := by
  have h1 : (n : Int) * c ≤ 6 * c := Int.mul_le_mul_of_nonneg_right (by omega) hc
  have h2 : (n : Int) * (n * c) ≤ n * (6 * c) := Int.mul_le_mul_of_nonneg_left h1 (by omega)
  have h3 : (n : Int) * (6 * c) ≤ 6 * (6 * c) := Int.mul_le_mul_of_nonneg_right (by omega) (by omega)
  omega
/-- A legal script of no more than 36 c a vertex: all in all 216 c. -/
theorem Legal.small {n : Nat} (hn : n ≤ 6) {es : List E} (hes : ∀ e ∈ es, EOk n e) (hj : Joined n es) {q : Int} (hq : 0 ≤ q ∧ q < n) {p s : Int → Int} (h : Legal n es q p s) {c : Int} (hc : 0 ≤ c) (hpc : ∀ v : Int, 0 ≤ v → v < n → v ≠ q → p v ≤ c) :
    (∀ v : Int, 0 ≤ v → v < n → 0 ≤ s v ∧ s v ≤ 36 * c) ∧ sumN n (fun i => s (i : Int)) ≤ 216 * c := by
  have h36 := sq_le hn hc
  have hb : ∀ v : Int, 0 ≤ v → v < n → 0 ≤ s v ∧ s v ≤ 36 * c := fun v h0 h1 => by
    have := h.bound1 hes hj hq hc hpc v h0 h1
    have := h.nonneg.1 v
    omega
  refine ⟨hb, ?_⟩
  have h1 := sumN_le_const (n := n) (f := fun i => s (i : Int)) (c := 36 * c) (fun i hi => (hb i (by omega) (by omega)).2)
  have h2 : (n : Int) * (36 * c) ≤ 6 * (36 * c) := Int.mul_le_mul_of_nonneg_right (by omega) (by omega)
  omega
theorem sum_grow {n : Nat} {s : Int → Int} {v : Int} (h0 : 0 ≤ v) (h1 : v < n) (t : Int) : sumN n (fun i => (fun w => s w + one v t w) (i : Int)) = sumN n (fun i => s (i : Int)) + t := by
  rw [sumN_add n (fun i => s (i : Int)) (fun i => one v t (i : Int)), sumN_one' h0 h1]
/-- Borrowing is toppling of what is missing. -/
def dual (es : List E) (d : Int → Int) (v : Int) : Int := val es v - 1 - d v
structure Sets (n : Nat) (es : List E) (q : Int) (d u : Int → Int) : Prop where
  pos : ∀ w, 0 ≤ u w
  at_q : u q = 0
  keeps : ∀ v : Int, 0 ≤ v → v < n → v ≠ q → 0 ≤ d v - lap es u v
theorem Sets.zero {n : Nat} {es : List E} {q : Int} {d : Int → Int} (h : ∀ v : Int, 0 ≤ v → v < n → v ≠ q → 0 ≤ d v) : Sets n es q d (fun _ => 0) where
  pos := fun _ => Int.le_refl _
  at_q := rfl
  keeps := fun v h0 h1 h2 => by
    rw [lap_const (c := 0) (fun _ _ => ⟨rfl, rfl⟩)]
    have := h v h0 h1 h2
    omega
theorem Sets.small {n : Nat} (hn : n ≤ 6) {es : List E} (hes : ∀ e ∈ es, EOk n e) (hj : Joined n es) {q : Int} (hq : 0 ≤ q ∧ q < n) {d u : Int → Int} (h : Sets n es q d u) {c : Int} (hc : 0 ≤ c) (hpc : ∀ v : Int, 0 ≤ v → v < n → v ≠ q → d v ≤ c) :
    (∀ v : Int, 0 ≤ v → v < n → 0 ≤ u v ∧ u v ≤ 36 * c) ∧ sumN n (fun i => u (i : Int)) ≤ 216 * c := by
  have h36 := sq_le hn hc
  have hb : ∀ v : Int, 0 ≤ v → v < n → 0 ≤ u v ∧ u v ≤ 36 * c := fun v h0 h1 => by
    have := script_bd hes hj hq hc (s := u) (by rw [h.at_q]; exact Int.le_refl _) (fun v h0 h1 hs => by
      have hne : v ≠ q := by rintro rfl; rw [h.at_q] at hs; omega
      have := h.keeps v h0 h1 hne
      have := hpc v h0 h1 hne
      omega) v h0 h1
    have := h.pos v
    omega
  refine ⟨hb, ?_⟩
  have h1 := sumN_le_const (n := n) (f := fun i => u (i : Int)) (c := 36 * c) (fun i hi => (hb i (by omega) (by omega)).2)
  have h2 : (n : Int) * (36 * c) ≤ 6 * (36 * c) := Int.mul_le_mul_of_nonneg_right (by omega) (by omega)
  omega
def unb (b : List Int) : Int → Int := ind (fun x => decide (x ∉ b))
theorem unb_mem {b : List Int} {v : Int} (h : v ∈ b) : unb b v = 0 := by simp [unb, ind, h]
theorem unb_not {b : List Int} {v : Int} (h : v ∉ b) : unb b v = 1 := by simp [unb, ind, h]
theorem unb_nonneg (b : List Int) (v : Int) : 0 ≤ unb b v := by
  by_cases h : v ∈ b
  · rw [unb_mem h]; omega
  · rw [unb_not h]; omega
/-- What the fire does not reach, fires. -/
theorem Sets.step {n : Nat} {es : List E} (hes : ∀ e ∈ es, EOk n e) {q : Int} (hq : 0 ≤ q ∧ q < n) {d u x : Int → Int} (h : Sets n es q d u) (hx : ∀ v : Int, 0 ≤ v → v < n → x v = d v - lap es u v) {b : List Int} (hb : Burn n es x q b) (hc : ∀ v : Int, 0 ≤ v → v < n → v ∉ b → burnSum es b v ≤ x v) :
    Sets n es q d (fun w => u w + unb b w) where
  pos := fun w => by have := h.pos w; have := unb_nonneg b w; show 0 ≤ u w + unb b w; omega
  at_q := by show u q + unb b q = 0; rw [h.at_q, unb_mem (hb.ok hq).2.2]; rfl
  keeps := fun v h0 h1 h2 => by
    rw [lap_add]
    have := h.keeps v h0 h1 h2
    have e := hx v h0 h1
    by_cases hm : v ∈ b
    · have := lap_le_zero (es := es) (r := unb b) (v := v) (unb_nonneg b) (unb_mem hm)
      omega
    · have h3 := hc v h0 h1 hm
      rw [burnSum_lap hes (hb.ok hq).1 hm] at h3
      have : lap es (unb b) v = lap es (ind (fun x => decide (x ∉ b))) v := rfl
      omega
theorem unburnt_some {n : Nat} {b : List Int} (hl : b.length < n) : ∃ v : Int, 0 ≤ v ∧ v < n ∧ v ∉ b := by
  apply Classical.byContradiction
  intro hc
  have := len_nodup n b (fun i hi => by
    apply Classical.byContradiction
    intro hm
    exact hc ⟨i, by omega, by omega, hm⟩)
  omega
theorem sum_unb {n : Nat} {u : Int → Int} {b : List Int} (hex : ∃ v : Int, 0 ≤ v ∧ v < n ∧ v ∉ b) : sumN n (fun i => u (i : Int)) + 1 ≤ sumN n (fun i => (fun w => u w + unb b w) (i : Int)) := by
  obtain ⟨v, h0, h1, hm⟩ := hex
  rw [sumN_add n (fun i => u (i : Int)) (fun i => unb b (i : Int))]
  have := sumN_pos_term (n := n) (f := fun i => unb b (i : Int)) (fun i _ => unb_nonneg b _) v.toNat (by omega)
  have e : ((v.toNat : Nat) : Int) = v := by omega
  simp only [e, unb_not hm] at this
  omega
/-- The first vertex from i on that burns, or -1. -/
def nextB (es : List E) (d : Int → Int) (b : List Int) : Nat → Nat → Int
  | 0, _ => -1
  | k + 1, i => if (i : Int) ∉ b ∧ d i < burnSum es b i then i else nextB es d b k (i + 1)
theorem nextB_ok (es : List E) (d : Int → Int) (b : List Int) : ∀ (k i : Nat), (nextB es d b k i = -1 ∧ ∀ j : Nat, i ≤ j → j < i + k → (j : Int) ∉ b → burnSum es b j ≤ d j) ∨ ((i : Int) ≤ nextB es d b k i ∧ nextB es d b k i < i + k ∧ nextB es d b k i ∉ b ∧ d (nextB es d b k i) < burnSum es b (nextB es d b k i))
  | 0, i => .inl ⟨rfl, fun j h0 h1 => by omega⟩
  | k + 1, i => by
    unfold nextB
    by_cases h : (i : Int) ∉ b ∧ d i < burnSum es b i
    · rw [if_pos h]
      exact .inr ⟨by omega, by omega, h.1, h.2⟩
    · rw [if_neg h]
      rcases nextB_ok es d b k (i + 1) with ⟨h1, h2⟩ | ⟨h1, h2, h3⟩
      · refine .inl ⟨h1, fun j h3 h4 h5 => ?_⟩
        by_cases e : j = i
        · subst e
          apply Classical.byContradiction
          intro hc
          exact h ⟨h5, by omega⟩
        · exact h2 j (by omega) (by omega) h5
      · exact .inr ⟨by omega, by omega, h3⟩
def burnW (n : Nat) (es : List E) (d : Int → Int) : Nat → List Int → List Int
  | 0, b => b
  | k + 1, b => if nextB es d b n 0 < 0 then b else burnW n es d k (b ++ [nextB es d b n 0])
def burnF (n : Nat) (es : List E) (d : Int → Int) (q : Int) : List Int := burnW n es d n [q]
def BClosed (n : Nat) (es : List E) (d : Int → Int) (b : List Int) : Prop := ∀ v : Int, 0 ≤ v → v < n → v ∉ b → burnSum es b v ≤ d v
theorem nextB_closed {n : Nat} {es : List E} {d : Int → Int} {b : List Int} (h : nextB es d b n 0 < 0) : BClosed n es d b := by
  rcases nextB_ok es d b n 0 with ⟨_, h2⟩ | ⟨h1, _⟩
  · intro v h0 h1 hm
    have e : ((v.toNat : Nat) : Int) = v := by omega
    have := h2 v.toNat (by omega) (by omega) (by rw [e]; exact hm)
    rw [e] at this
    exact this
  · omega
theorem burnW_ok {n : Nat} {es : List E} {d : Int → Int} {q : Int} (hq : 0 ≤ q ∧ q < n) : ∀ (k : Nat) (b : List Int), n + 1 ≤ b.length + k → Burn n es d q b → Burn n es d q (burnW n es d k b) ∧ BClosed n es d (burnW n es d k b)
  | 0, b, hl, h => by have := h.len hq; omega
  | k + 1, b, hl, h => by
    unfold burnW
    by_cases hc : nextB es d b n 0 < 0
    · rw [if_pos hc]
      exact ⟨h, nextB_closed hc⟩
    · rw [if_neg hc]
      rcases nextB_ok es d b n 0 with ⟨h1, _⟩ | ⟨h1, h2, h3, h4⟩
      · omega
      · exact burnW_ok hq k _ (by simp; omega) (h.step (by omega) (by omega) h3 h4)
theorem burnF_ok {n : Nat} {es : List E} {d : Int → Int} {q : Int} (hq : 0 ≤ q ∧ q < n) : Burn n es d q (burnF n es d q) ∧ BClosed n es d (burnF n es d q) := burnW_ok hq n [q] (by simp; omega) .start
def RedTo (n : Nat) (es : List E) (q : Int) (d x s : Int → Int) : Prop := Red n es q x ∧ s q = 0 ∧ ∀ v : Int, 0 ≤ v → v < n → x v = d v - lap es s v
theorem RedTo.unique {n : Nat} {es : List E} (hes : ∀ e ∈ es, EOk n e) {q : Int} (hq : 0 ≤ q ∧ q < n) {d x s x' s' : Int → Int} (h : RedTo n es q d x s) (h' : RedTo n es q d x' s') : ∀ v : Int, 0 ≤ v → v < n → x v = x' v ∧ s v = s' v := by
  have hu := red_unique hes hq h.1 h'.1 (s := fun v => s' v - s v) (fun v h0 h1 => by
    rw [lap_sub, h.2.2 v h0 h1, h'.2.2 v h0 h1]
    omega)
  intro v h0 h1
  have h2 := hu.1 v h0 h1
  simp only [h.2.1, h'.2.1] at h2
  exact ⟨(hu.2 v h0 h1).symm, by omega⟩
/-- Off q a reduced divisor lies below the valence. -/
theorem Red.lt {n : Nat} {es : List E} (hes : ∀ e ∈ es, EOk n e) {q : Int} {d : Int → Int} (h : Red n es q d) {v : Int} (h0 : 0 ≤ v) (h1 : v < n) (hv : v ≠ q) : 0 ≤ d v ∧ d v < val es v := by
  refine ⟨h.1 v h0 h1 hv, ?_⟩
  obtain ⟨w, _, _, hw, hlt⟩ := h.2 (fun x => decide (x = v)) (by simpa using fun e => hv e.symm) ⟨v, h0, h1, by simp⟩
  obtain rfl : w = v := by simpa using hw
  have e : ind (fun x => decide (x = w)) = one w 1 := by
    funext x
    unfold ind one
    by_cases c : x = w <;> simp [c]
  rw [e, lap_one_self hes] at hlt
  omega
/-- .. and at q it makes up the degree. -/
theorem Red.at_q {n : Nat} (hn : n ≤ 6) {es : List E} (hes : ∀ e ∈ es, EOk n e) (hel : es.length ≤ 12) {q : Int} (hq : 0 ≤ q ∧ q < n) {d : Int → Int} (h : Red n es q d) : sumN n (fun i => d (i : Int)) - 72 ≤ d q ∧ d q ≤ sumN n (fun i => d (i : Int)) := by
  have hf : ∀ i : Nat, i < n → 0 ≤ d i - one q (d q) i ∧ d i - one q (d q) i ≤ 12 := by
    intro i hi
    unfold one
    by_cases e : (i : Int) = q
    · rw [if_pos e, e]; omega
    · rw [if_neg e]
      have := h.lt hes (v := i) (by omega) (by omega) e
      have := val_le es i
      omega
  have h1 : sumN n (fun i => d (i : Int)) = sumN n (fun i => d i - one q (d q) i) + d q := by
    have := sumN_add n (fun i => d i - one q (d q) i) (fun i => one q (d q) i)
    rw [sumN_one' hq.1 hq.2] at this
    rw [← this]
    apply sumN_congr
    intro i _
    omega
  have h2 := sumN_nonneg (n := n) (fun i hi => (hf i hi).1)
  have h3 := sumN_le_const (n := n) (fun i hi => (hf i hi).2)
  omega
theorem RedTo.degree {n : Nat} {es : List E} (hes : ∀ e ∈ es, EOk n e) {q : Int} {d x s : Int → Int} (h : RedTo n es q d x s) : sumN n (fun i => x (i : Int)) = sumN n (fun i => d (i : Int)) := by
  have h1 := sumN_congr (n := n) (f := fun i => x (i : Int)) (g := fun i => d (i : Int) + (- lap es s i)) (fun i hi => by
    have := h.2.2 i (by omega) (by omega)
    omega)
  have h2 := lap_sum (n := n) hes (fun v => - s v)
  rw [h1, sumN_add n (fun i => d (i : Int)) (fun i => - lap es s i)]
  have h3 : sumN n (fun i => lap es (fun v => - s v) i) = sumN n (fun i => - lap es s i) := sumN_congr (fun i _ => lap_neg _ _ _)
  omega
end Go.Proofs.Ytgobnfeahffnaaa.Cf
end

section
namespace Go.Proofs.Ytgobnfeahffnaaa.Cf
set_option linter.unusedVariables false
set_option linter.unusedSimpArgs false
open Go.Proofs.YtgobnfeahffnaaaW.PrintWords
theorem rd_set {x : List Int} {i : Int} (h0 : 0 ≤ i) (h1 : i < x.length) (y : Int) {w : Int} (hw : 0 ≤ w) : rd (x.set i.toNat y) w = if w = i then y else rd x w := by
  obtain ⟨a, rfl⟩ := Int.eq_ofNat_of_zero_le h0
  obtain ⟨b, rfl⟩ := Int.eq_ofNat_of_zero_le hw
  simp only [Int.ofNat_eq_natCast, Int.toNat_natCast, rd_nat, List.getD_eq_getElem?_getD] at *
  by_cases c : b = a
  · subst c
    rw [List.getElem?_set_self (by omega), if_pos rfl]
    rfl
  · rw [List.getElem?_set_ne (fun y => c y.symm), if_neg (by omega)]
/-- A list's numbers lie between -B and B. -/
def Bd (x : List Int) (B : Int) : Prop := ∀ w : Int, 0 ≤ w → w < x.length → -B ≤ rd x w ∧ rd x w ≤ B
theorem Bd.mono {x : List Int} {B B' : Int} (h : Bd x B) (hB : B ≤ B') : Bd x B' := fun w h0 h1 => by have := h w h0 h1; omega
theorem Bd.of60 {p : List Int} (h : ∀ x ∈ p, -60 ≤ x ∧ x ≤ 60) : Bd p 60 := fun w h0 h1 => by
  obtain ⟨i, rfl⟩ := Int.eq_ofNat_of_zero_le h0
  have hi : i < p.length := by omega
  rw [rd_get hi]
  exact h _ (List.getElem_mem hi)
/-- x is d, less what the script s takes over these edges. -/
def Less (es : List E) (d : List Int) (s : Int → Int) (x : List Int) : Prop := x.length = d.length ∧ ∀ w : Int, 0 ≤ w → w < d.length → rd x w = rd d w - lap es s w
theorem lap_snoc (es : List E) (e : E) (s : Int → Int) (w : Int) : lap (es ++ [e]) s w = lap es s w + lapE s w e := by
  induction es with
  | nil => simp [lap, sumE]
  | cons a r ih => rw [List.cons_append, lap_cons, ih, lap_cons]; omega
theorem lap_take {es : List E} {i : Nat} (h : i < es.length) (s : Int → Int) (w : Int) : lap (es.take (i + 1)) s w = lap (es.take i) s w + lapE s w es[i] := by
  rw [List.take_succ_eq_append_getElem h, lap_snoc]
/-- The list c tells s on the first n numbers. -/
def Rep (n : Nat) (c : List Int) (s : Int → Int) : Prop := c.length = n ∧ ∀ w : Int, 0 ≤ w → w < n → rd c w = s w
theorem Rep.ext {n : Nat} {c c' : List Int} {s : Int → Int} (h : Rep n c s) (h' : Rep n c' s) : c = c' := by
  apply List.ext_getElem (by rw [h.1, h'.1])
  intro i h1 h2
  have e := h.2 i (by omega) (by have := h.1; omega)
  have e' := h'.2 i (by omega) (by have := h.1; omega)
  rw [rd_get h1] at e
  rw [rd_get h2] at e'
  rw [e, e']
theorem Rep.congr {n : Nat} {c : List Int} {s t : Int → Int} (h : Rep n c s) (he : ∀ w : Int, 0 ≤ w → w < n → s w = t w) : Rep n c t := ⟨h.1, fun w h0 h1 => (h.2 w h0 h1).trans (he w h0 h1)⟩
theorem Rep.self {n : Nat} {c : List Int} (h : c.length = n) : Rep n c (rd c) := ⟨h, fun _ _ _ => rfl⟩
theorem Rep.set {n : Nat} {c : List Int} {s : Int → Int} (h : Rep n c s) {v : Int} (h0 : 0 ≤ v) (h1 : v < n) (y : Int) : Rep n (c.set v.toNat y) (fun w => if w = v then y else s w) := by
  refine ⟨by rw [List.length_set]; exact h.1, fun w w0 w1 => ?_⟩
  rw [rd_set h0 (by rw [h.1]; exact h1) y w0, h.2 w w0 w1]
theorem rd_replicate (n : Nat) (v : Int) : rd (List.replicate n (0 : Int)) v = 0 := by
  unfold rd
  rw [List.getD_eq_getElem?_getD]
  by_cases h : v.toNat < n
  · rw [List.getElem?_replicate_of_lt h]; rfl
  · rw [List.getElem?_eq_none (by simp; omega)]; rfl
theorem Rep.zero (n : Nat) : Rep n (List.replicate n (0 : Int)) (fun _ => 0) := ⟨by simp, fun w _ _ => rd_replicate n w⟩
/-- The list of a function's first n values. -/
def repL (n : Nat) (f : Int → Int) : List Int := (List.range n).map fun i : Nat => f (i : Int)
theorem repL_len (n : Nat) (f : Int → Int) : (repL n f).length = n := by simp [repL]
theorem repL_rep (n : Nat) (f : Int → Int) : Rep n (repL n f) f := by
  refine ⟨by simp [repL], fun w h0 h1 => ?_⟩
  obtain ⟨a, rfl⟩ := Int.eq_ofNat_of_zero_le h0
  rw [rd_get (by simp [repL]; omega)]
  simp [repL]
theorem Rep.eq {n : Nat} {c : List Int} {s : Int → Int} (h : Rep n c s) : c = repL n s := h.ext (repL_rep n s)
theorem Rep.bd {n : Nat} {c : List Int} {s : Int → Int} {B : Int} (h : Rep n c s) (hb : ∀ w : Int, 0 ≤ w → w < n → -B ≤ s w ∧ s w ≤ B) : Bd c B := fun w h0 h1 => by
  rw [h.2 w h0 (by have := h.1; omega)]
  exact hb w h0 (by have := h.1; omega)
theorem Less.rep {n : Nat} {es : List E} {d x : List Int} {s : Int → Int} (hd : d.length = n) (h : Less es d s x) : Rep n x (fun w => rd d w - lap es s w) := ⟨h.1.trans hd, fun w h0 h1 => h.2 w h0 (by omega)⟩
def Reduced (n : Nat) (es : List E) (q : Int) (d : List Int) (r : List Int × List Int) : Prop := r.1.length = n ∧ r.2.length = n ∧ RedTo n es q (rd d) (rd r.1) (rd r.2)
theorem Reduced.unique {n : Nat} {es : List E} (hes : ∀ e ∈ es, EOk n e) {q : Int} (hq : 0 ≤ q ∧ q < n) {d : List Int} {r r' : List Int × List Int} (h : Reduced n es q d r) (h' : Reduced n es q d r') : r = r' := by
  have hu := h.2.2.unique hes hq h'.2.2
  refine Prod.ext ?_ ?_
  · exact (Rep.self h.1).ext ((Rep.self h'.1).congr fun w h0 h1 => (hu w h0 h1).1.symm)
  · exact (Rep.self h.2.1).ext ((Rep.self h'.2.1).congr fun w h0 h1 => (hu w h0 h1).2.symm)
open Classical in
noncomputable def reduceS (n : Nat) (es : List E) (q : Int) (d : List Int) : List Int × List Int := if h : ∃ r, Reduced n es q d r then Classical.choose h else ([], [])
theorem Reduced.eq {n : Nat} {es : List E} (hes : ∀ e ∈ es, EOk n e) {q : Int} (hq : 0 ≤ q ∧ q < n) {d : List Int} {r : List Int × List Int} (h : Reduced n es q d r) : r = reduceS n es q d := by
  have he : ∃ r, Reduced n es q d r := ⟨r, h⟩
  unfold reduceS
  rw [dif_pos he]
  exact h.unique hes hq (Classical.choose_spec he)
/-- The sum of a list as a sum over numbers. -/
theorem sum_rd : ∀ (n : Nat) (c : List Int), c.length = n → c.sum = sumN n (fun i => rd c (i : Int))
  | 0, c, h => by
    obtain rfl := List.length_eq_zero_iff.1 h
    rfl
  | n + 1, c, h => by
    obtain ⟨a, x, rfl⟩ : ∃ a x, c = a ++ [x] := ⟨c.dropLast, c.getLast (by rintro rfl; simp at h), (List.dropLast_concat_getLast _).symm⟩
    simp only [List.length_append, List.length_cons, List.length_nil, Nat.zero_add, Nat.add_right_cancel_iff] at h
    simp only [sumN, List.sum_append, List.sum_cons, List.sum_nil]
    rw [sum_rd n a h]
    congr 1
    · apply sumN_congr
      intro i hi
      rw [rd_get (show i < a.length by omega), rd_get (show i < (a ++ [x]).length by simp; omega), List.getElem_append_left (by omega)]
    · subst h
      rw [rd_get (show a.length < (a ++ [x]).length by simp)]
      simp
/-- A reduced divisor's numbers, where the degree is D. -/
theorem Reduced.bd {n : Nat} (hn : n ≤ 6) {es : List E} (hes : ∀ e ∈ es, EOk n e) (hel : es.length ≤ 12) {q : Int} (hq : 0 ≤ q ∧ q < n) {d : List Int} (hd : d.length = n) {r : List Int × List Int} (h : Reduced n es q d r) :
    r.1.sum = d.sum ∧ ∀ v : Int, 0 ≤ v → v < n → (v ≠ q → 0 ≤ rd r.1 v ∧ rd r.1 v ≤ 11) ∧ (v = q → d.sum - 72 ≤ rd r.1 v ∧ rd r.1 v ≤ d.sum) := by
  have h1 : r.1.sum = d.sum := by rw [sum_rd n _ h.1, sum_rd n _ hd]; exact h.2.2.degree hes
  refine ⟨h1, fun v h0 h2 => ⟨fun hv => ?_, ?_⟩⟩
  · have := h.2.2.1.lt hes h0 h2 hv
    have := val_le es v
    omega
  · rintro rfl
    have := h.2.2.1.at_q hn hes hel hq
    rw [← sum_rd n _ h.1, h1] at this
    exact this
end Go.Proofs.Ytgobnfeahffnaaa.Cf
end

section
namespace Go.Proofs.Ytgobnfeahffnaaa.Cf
set_option linter.unusedVariables false
set_option linter.unusedSimpArgs false
open Go.Proofs.YtgobnfeahffnaaaW.PrintWords
theorem valG_in {n : Int} {es : List E} {v : Int} (h : 0 ≤ v ∧ v < n) : valG n es v = val es v := by
  unfold valG
  rw [if_pos h]
/-- The first vertex in debt, from one on; or -1. -/
def debtF (q : Int) (p : List Int) : Nat → Nat → Int
  | 0, _ => -1
  | d + 1, i => if (i : Int) = q then debtF q p d (i + 1) else if rd p i < 0 then i else debtF q p d (i + 1)
theorem debtF_ok (q : Int) (p : List Int) : ∀ (d i : Nat), (debtF q p d i = -1 ∧ ∀ j : Nat, i ≤ j → j < i + d → (j : Int) ≠ q → 0 ≤ rd p (j : Int)) ∨ ((i : Int) ≤ debtF q p d i ∧ debtF q p d i < i + d ∧ debtF q p d i ≠ q ∧ rd p (debtF q p d i) < 0)
  | 0, i => .inl ⟨rfl, fun j h0 h1 => by omega⟩
  | d + 1, i => by
    unfold debtF
    have ih := debtF_ok q p d (i + 1)
    by_cases h : (i : Int) = q
    · rw [if_pos h]
      rcases ih with ⟨h1, h2⟩ | ⟨h1, h2, h3⟩
      · refine .inl ⟨h1, fun j h3 h4 h5 => ?_⟩
        by_cases e : j = i
        · subst e; exact absurd h h5
        · exact h2 j (by omega) (by omega) h5
      · exact .inr ⟨by omega, by omega, h3⟩
    · rw [if_neg h]
      by_cases h2 : rd p i < 0
      · rw [if_pos h2]
        exact .inr ⟨by omega, by omega, h, h2⟩
      · rw [if_neg h2]
        rcases ih with ⟨h1, h3⟩ | ⟨h1, h3, h4⟩
        · refine .inl ⟨h1, fun j k1 k2 k3 => ?_⟩
          by_cases e : j = i
          · subst e; omega
          · exact h3 j (by omega) (by omega) k3
        · exact .inr ⟨by omega, by omega, h4⟩
theorem debt_neg {n : Nat} {q : Int} {p : List Int} (hp : p.length = n) (h : debtF q p p.length 0 < 0) : ∀ v : Int, 0 ≤ v → v < n → v ≠ q → 0 ≤ rd p v := by
  intro v h0 h1 hv
  rcases debtF_ok q p p.length 0 with ⟨_, h2⟩ | ⟨h2, _⟩
  · have := h2 v.toNat (by omega) (by omega) (by omega)
    have e : ((v.toNat : Nat) : Int) = v := by omega
    rw [e] at this
    exact this
  · omega
theorem debt_pos {n : Nat} {q : Int} {p : List Int} (hp : p.length = n) (h : ¬ debtF q p p.length 0 < 0) : 0 ≤ debtF q p p.length 0 ∧ debtF q p p.length 0 < n ∧ debtF q p p.length 0 ≠ q ∧ rd p (debtF q p p.length 0) < 0 := by
  rcases debtF_ok q p p.length 0 with ⟨h1, _⟩ | ⟨h1, h2, h3⟩
  · omega
  · exact ⟨by omega, by omega, h3⟩
/-- The edges to what burns, counted over all vertices. -/
theorem sum_pick (f : Int → Int) (n : Nat) : ∀ (b : List Int), b.Nodup → (∀ v ∈ b, 0 ≤ v ∧ v < n) → sumN n (fun w => if (w : Int) ∈ b then f w else 0) = (b.map f).sum
  | [], _, _ => by simp [sumN_zero]
  | a :: r, hb, hr => by
    have ha := hr a List.mem_cons_self
    rw [List.map_cons, List.sum_cons, ← sum_pick f n r (List.nodup_cons.1 hb).2 (fun v hv => hr v (List.mem_cons_of_mem _ hv)), ← sumN_one (n := n) a.toNat (by omega) (f a), ← sumN_add]
    apply sumN_congr
    intro i hi
    by_cases e : i = a.toNat
    · have e' : (i : Int) = a := by omega
      rw [if_pos e, e', if_pos List.mem_cons_self, if_neg (List.nodup_cons.1 hb).1]
      omega
    · have e' : (i : Int) ≠ a := by omega
      rw [if_neg e]
      simp [e']
end Go.Proofs.Ytgobnfeahffnaaa.Cf
end

section
namespace Go.Proofs.Ytgobnfeahffnaaa.P
open Go.RowKit Go.Proofs.YtgobnfeahffnaaaW.PrintWords Go.Proofs.YtgobnfeahffnaaaW.PrintLast Go.Proofs.YtgobnfeahffnaaaW.PrintMore
attribute [local go_sem] max2_int min2_int max_two min_two max_three min_three max_four min_four
set_option linter.unusedVariables false
set_option linter.unusedSimpArgs false
def spec_l04Fire.l0 : Nat → List Int → List Int → List (S83) → Int → Int → Option (List Int)
 | 0, _, _, _, _, _ => none
 | k + 1, x2, x7, x14, x15, x16 => if x16 < x15 then (if 0 ≤ x16 then (if x16 < (x14.length : Int) then (if 0 ≤ ((rd_T83 x14 x16).f0) then (if ((rd_T83 x14 x16).f0) < (x7.length : Int) then (if ((rd_T83 x14 x16).f0) < (x2.length : Int) then (if 0 ≤ ((rd_T83 x14 x16).f1) then (if ((rd_T83 x14 x16).f1) < (x2.length : Int) then ((some (x7.set (((rd_T83 x14 x16).f0) : Int).toNat (wrap64 ((wrap64 ((rd x7 ((rd_T83 x14 x16).f0)) - (rd x2 ((rd_T83 x14 x16).f0)))) + (rd x2 ((rd_T83 x14 x16).f1)))) : List Int)).bind fun y113 => (if ((rd_T83 x14 x16).f1) < (x7.length : Int) then (spec_l04Fire.l0 k x2 (y113.set (((rd_T83 x14 x16).f1) : Int).toNat (wrap64 ((wrap64 ((rd y113 ((rd_T83 x14 x16).f1)) - (rd x2 ((rd_T83 x14 x16).f1)))) + (rd x2 ((rd_T83 x14 x16).f0))))) x14 x15 (wrap64 (x16 + 1))) else (none))) else (none)) else (none)) else (none)) else (none)) else (none)) else (none)) else (none)) else (some x7)
def spec_l04Fire.f (k : Nat) (a0_0 : Int) (l0_1 : List (S83)) (l1 : List Int) (l2 : List Int) : Option (List Int) := (some (([] : List Int) : List Int)).bind fun y102 => (if y102.length + l1.length < 17592186044416 then (spec_l04Fire.l0 k l2 (y102 ++ l1) l0_1 (l0_1.length : Int) 0) else (none))
theorem spec_l04Fire.mono_l : ∀ k, (∀ y0 y1 y2 y3 y4, LeO (spec_l04Fire.l0 k y0 y1 y2 y3 y4) (spec_l04Fire.l0 (k + 1) y0 y1 y2 y3 y4))
 | 0 => fun _ _ _ _ _ r h => by simp [spec_l04Fire.l0] at h
 | k + 1 => by
  have ih0 := spec_l04Fire.mono_l k
  ·intro y0 y1 y2 y3 y4
   unfold spec_l04Fire.l0
   exact zm0
theorem spec_l04Fire.mono : ∀ a0 a1 a2 a3 k, LeO (spec_l04Fire.f k a0 a1 a2 a3) (spec_l04Fire.f (k + 1) a0 a1 a2 a3) := by
 intro a0 a1 a2 a3 k; have ih0 := spec_l04Fire.mono_l k; unfold spec_l04Fire.f; exact zm0
end Go.Proofs.Ytgobnfeahffnaaa.P
end

section
namespace Go.Proofs.Ytgobnfeahffnaaa.Cf
set_option linter.unusedVariables false
set_option linter.unusedSimpArgs false
open Go.RowKit Go.Proofs.YtgobnfeahffnaaaW.PrintWords Go.Proofs.Ytgobnfeahffnaaa.P
theorem specFire_l0 (n : Nat) (es : List E) (hes : ∀ e ∈ es, EOk n e) (hel : es.length ≤ 12) (d s : List Int) (hd : d.length = n) (hs : s.length = n) {B K : Int} (hK : 0 ≤ K ∧ 0 ≤ B) (hbd : Bd d B) (hbs : Bd s K) (hB : B + 24 * K ≤ 4611686018427387904) :
    ∀ (k i : Nat) (x : List Int), i + k = es.length → Less (es.take i) d (rd s) x → Bd x (B + 2 * K * i) → Ep (fun r => spec_l04Fire.l0 r s x es (es.length : Int) (i : Int)) (fun r => Less es d (rd s) r ∧ Bd r (B + 24 * K)) := by
  intro k
  induction k with
  | zero =>
    intro i x hi hx hb
    obtain rfl : i = es.length := by omega
    refine Ep.up ?_
    simp only [spec_l04Fire.l0]
    refine Ep.neg (by omega) (Ep.now ⟨?_, hb.mono ?_⟩)
    · rw [List.take_length] at hx
      exact hx
    · have : 2 * K * (es.length : Int) ≤ 2 * K * 12 := Int.mul_le_mul_of_nonneg_left (by omega) (by omega)
      omega
  | succ k ih =>
    intro i x hi hx hb
    have hlt : i < es.length := by omega
    have he := hes _ (List.getElem_mem hlt)
    unfold EOk at he
    have hxl : x.length = n := hx.1.trans hd
    have hi12 : 2 * K * (i : Int) ≤ 2 * K * 12 := Int.mul_le_mul_of_nonneg_left (by omega) (by omega)
    have ba := hb es[i].f0 (by omega) (by omega)
    have bb := hb es[i].f1 (by omega) (by omega)
    have sa := hbs es[i].f0 (by omega) (by omega)
    have sb := hbs es[i].f1 (by omega) (by omega)
    refine Ep.up ?_
    simp only [spec_l04Fire.l0]
    refine Ep.pos (by omega) (Ep.pos (by omega) (Ep.pos (by omega) ?_))
    rw [rdE_get hlt, wrap_succ (by omega)]
    refine Ep.pos (by omega) (Ep.pos (by omega) (Ep.pos (by omega) (Ep.pos (by omega) (Ep.pos (by omega) (Ep.bind0 rfl (Ep.pos (by omega) ?_))))))
    rw [rd_set (x := x) (by omega) (by omega) _ (w := es[i].f1) (by omega), if_neg (by omega), wrap_id (x := rd x es[i].f0 - rd s es[i].f0) (by omega) (by omega), wrap_id (x := rd x es[i].f0 - rd s es[i].f0 + rd s es[i].f1) (by omega) (by omega), wrap_id (x := rd x es[i].f1 - rd s es[i].f1) (by omega) (by omega), wrap_id (x := rd x es[i].f1 - rd s es[i].f1 + rd s es[i].f0) (by omega) (by omega)]
    have key : ∀ w : Int, 0 ≤ w → w < n → rd ((x.set es[i].f0.toNat (rd x es[i].f0 - rd s es[i].f0 + rd s es[i].f1)).set es[i].f1.toNat (rd x es[i].f1 - rd s es[i].f1 + rd s es[i].f0)) w = rd x w - lapE (rd s) w es[i] := by
      intro w h0 h1
      rw [rd_set (by omega) (by rw [List.length_set]; omega) _ h0, rd_set (by omega) (by omega) _ h0]
      unfold lapE
      by_cases c1 : w = es[i].f1
      · rw [if_pos c1, if_neg (by omega), if_pos c1.symm, c1]
        omega
      · rw [if_neg c1]
        by_cases c0 : w = es[i].f0
        · rw [if_pos c0, if_pos c0.symm, if_neg (by omega), c0]
          omega
        · rw [if_neg c0, if_neg (by omega), if_neg (by omega)]
          omega
    refine ih (i + 1) _ (by omega) ⟨by simp [hx.1], ?_⟩ ?_
    · intro w h0 h1
      rw [key w h0 (by omega), hx.2 w h0 h1, lap_take hlt]
      omega
    · intro w h0 h1
      have h1' : w < n := by simpa [hxl] using h1
      rw [key w h0 h1']
      have := hb w h0 (by omega)
      have e : 2 * K * ((i + 1 : Nat) : Int) = 2 * K * (i : Int) + 2 * K := by
        rw [Int.natCast_add, Int.mul_add]
        omega
      rw [e]
      unfold lapE
      split <;> split <;> omega
theorem specFire (n : Nat) (hn : n ≤ 6) (es : List E) (hes : ∀ e ∈ es, EOk n e) (hel : es.length ≤ 12) (d s : List Int) (hd : d.length = n) (hs : s.length = n) {B K : Int} (hK : 0 ≤ K ∧ 0 ≤ B) (hbd : Bd d B) (hbs : Bd s K) (hB : B + 24 * K ≤ 4611686018427387904) :
    Ep (fun r => spec_l04Fire.f r (n : Int) es d s) (fun r => Less es d (rd s) r ∧ Bd r (B + 24 * K)) := by
  simp only [spec_l04Fire.f]
  refine Ep.bind0 rfl (Ep.pos (by simp; omega) ?_)
  refine specFire_l0 n es hes hel d s hd hs hK hbd hbs hB es.length 0 _ (by omega) ⟨rfl, fun w _ _ => ?_⟩ ?_
  · simp [lap, sumE]
  · simpa using hbd
theorem implFire_l0 (n : Nat) (es : List E) (hes : ∀ e ∈ es, EOk n e) (hel : es.length ≤ 12) (d : List Int) (v t : Int) (hd : d.length = n) (hv : 0 ≤ v ∧ v < n) {B K : Int} (hK : 0 ≤ K ∧ 0 ≤ B) (hbd : Bd d B) (ht : -K ≤ t ∧ t ≤ K) (hB : B + 12 * K ≤ 4611686018427387904) :
    ∀ (k i : Nat) (x : List Int), i + k = es.length → Less (es.take i) d (one v t) x → Bd x (B + K * i) → Ep (fun r => impl_fire.l0 r x v t es (es.length : Int) (i : Int)) (fun r => Less es d (one v t) r ∧ Bd r (B + 12 * K)) := by
  intro k
  induction k with
  | zero =>
    intro i x hi hx hb
    obtain rfl : i = es.length := by omega
    refine Ep.up ?_
    simp only [impl_fire.l0]
    refine Ep.neg (by omega) (Ep.now ⟨?_, hb.mono ?_⟩)
    · rw [List.take_length] at hx
      exact hx
    · have : K * (es.length : Int) ≤ K * 12 := Int.mul_le_mul_of_nonneg_left (by omega) (by omega)
      omega
  | succ k ih =>
    intro i x hi hx hb
    have hlt : i < es.length := by omega
    have he := hes _ (List.getElem_mem hlt)
    unfold EOk at he
    have hxl : x.length = n := hx.1.trans hd
    have hi12 : K * (i : Int) ≤ K * 12 := Int.mul_le_mul_of_nonneg_left (by omega) (by omega)
    have ba := hb es[i].f0 (by omega) (by omega)
    have bb := hb es[i].f1 (by omega) (by omega)
    have e1 : K * ((i + 1 : Nat) : Int) = K * (i : Int) + K := by
      rw [Int.natCast_add, Int.mul_add]
      omega
    have fin : ∀ x' : List Int, x'.length = x.length → (∀ w : Int, 0 ≤ w → w < n → rd x' w = rd x w - lapE (one v t) w es[i]) → Ep (fun r => impl_fire.l0 r x' v t es (es.length : Int) ((i + 1 : Nat) : Int)) (fun r => Less es d (one v t) r ∧ Bd r (B + 12 * K)) := by
      intro x' hl' key
      refine ih (i + 1) _ (by omega) ⟨by rw [hl']; exact hx.1, ?_⟩ ?_
      · intro w h0 h1
        rw [key w h0 (by omega), hx.2 w h0 h1, lap_take hlt]
        omega
      · intro w h0 h1
        have h1' : w < n := by omega
        rw [key w h0 h1', e1]
        have := hb w h0 (by omega)
        unfold lapE one
        (repeat' split) <;> omega
    refine Ep.up ?_
    simp only [impl_fire.l0]
    refine Ep.pos (by omega) (Ep.pos (by omega) (Ep.pos (by omega) ?_))
    rw [rdE_get hlt, wrap_succ (by omega)]
    refine Ep.ite (fun c => ?_) (fun c => Ep.ite (fun c2 => ?_) (fun c2 => ?_))
    · subst c
      refine Ep.pos (by omega) (Ep.pos (by omega) (Ep.bind0 rfl (Ep.pos (by omega) (Ep.pos (by omega) ?_))))
      rw [rd_set (x := x) (by omega) (by omega) _ (w := es[i].f1) (by omega), if_neg (by omega), wrap_id (x := rd x es[i].f0 - t) (by omega) (by omega), wrap_id (x := rd x es[i].f1 + t) (by omega) (by omega)]
      refine fin _ (by simp) ?_
      intro w h0 h1
      rw [rd_set (by omega) (by rw [List.length_set]; omega) _ h0, rd_set (by omega) (by omega) _ h0]
      unfold lapE one
      by_cases c1 : w = es[i].f1
      · subst c1; (repeat' split) <;> omega
      · by_cases c0 : w = es[i].f0
        · subst c0; (repeat' split) <;> omega
        · (repeat' split) <;> omega
    · subst c2
      refine Ep.pos (by omega) (Ep.pos (by omega) (Ep.bind0 rfl (Ep.pos (by omega) (Ep.pos (by omega) ?_))))
      rw [rd_set (x := x) (by omega) (by omega) _ (w := es[i].f0) (by omega), if_neg (by omega), wrap_id (x := rd x es[i].f1 - t) (by omega) (by omega), wrap_id (x := rd x es[i].f0 + t) (by omega) (by omega)]
      refine fin _ (by simp) ?_
      intro w h0 h1
      rw [rd_set (by omega) (by rw [List.length_set]; omega) _ h0, rd_set (by omega) (by omega) _ h0]
      unfold lapE one
      by_cases c1 : w = es[i].f1
      · subst c1; (repeat' split) <;> omega
      · by_cases c0 : w = es[i].f0
        · subst c0; (repeat' split) <;> omega
        · (repeat' split) <;> omega
    · refine fin x rfl ?_
      intro w h0 h1
      unfold lapE one
      (repeat' split) <;> omega
theorem implFire (n : Nat) (es : List E) (hes : ∀ e ∈ es, EOk n e) (hel : es.length ≤ 12) (d : List Int) (v t : Int) (hd : d.length = n) (hv : 0 ≤ v ∧ v < n) {B K : Int} (hK : 0 ≤ K ∧ 0 ≤ B) (hbd : Bd d B) (ht : -K ≤ t ∧ t ≤ K) (hB : B + 12 * K ≤ 4611686018427387904) :
    Ep (fun r => impl_fire.f r (n : Int) es d v t) (fun r => Less es d (one v t) r ∧ Bd r (B + 12 * K)) := by
  simp only [impl_fire.f]
  refine implFire_l0 n es hes hel d v t hd hv hK hbd ht hB es.length 0 _ (by omega) ⟨rfl, fun w _ _ => ?_⟩ ?_
  · simp [lap, sumE]
  · simpa using hbd
theorem copy_eq (l : List Int) (h : l.length ≤ 1048576) : impl_copyInts.f l = some l := by
  unfold impl_copyInts.f
  rw [if_pos (by simp; omega)]
  rfl
end Go.Proofs.Ytgobnfeahffnaaa.Cf
end

section
namespace Go.Proofs.Ytgobnfeahffnaaa.P
open Go.RowKit Go.Proofs.YtgobnfeahffnaaaW.PrintWords Go.Proofs.YtgobnfeahffnaaaW.PrintLast Go.Proofs.YtgobnfeahffnaaaW.PrintMore
attribute [local go_sem] max2_int min2_int max_two min_two max_three min_three max_four min_four
set_option linter.unusedVariables false
set_option linter.unusedSimpArgs false
def spec_l10Topple.f (k : Nat) (a0_0 : Int) (l0_1 : List (S83)) (l1 : List Int) (a2 : Int) (a3 : Int) : Option (List Int) := if 0 ≤ a0_0 then (if (a0_0 : Int).toNat ≤ 35184372088832 then ((some (List.replicate (a0_0 : Int).toNat 0 : List Int)).bind fun y102 => (if 0 ≤ a3 then (if a3 < (y102.length : Int) then ((spec_l04Fire.f k a0_0 l0_1 l1 (y102.set (a3 : Int).toNat 1)).bind fun t106 => (if 0 ≤ a2 then (if a2 < (t106.length : Int) then (some (t106.set (a2 : Int).toNat 0)) else (none)) else (none))) else (none)) else (none))) else (none)) else (none)
theorem spec_l10Topple.mono : ∀ a0 a1 a2 a3 a4 k, LeO (spec_l10Topple.f k a0 a1 a2 a3 a4) (spec_l10Topple.f (k + 1) a0 a1 a2 a3 a4) := by
 intro a0 a1 a2 a3 a4 k; unfold spec_l10Topple.f; repeat' first | (with_reducible apply spec_l04Fire.mono) | (with_reducible exact LeO.refl _) | (with_reducible exact LeO.none _) | (with_reducible refine LeO.ite ?_ ?_) | (with_reducible refine LeO.bind ?_ (fun _ => ?_)) | apply spec_l04Fire.mono | exact LeO.none _ | refine LeO.ite ?_ ?_ | refine LeO.bind ?_ (fun _ => ?_)
def impl_Topple.j0 : Nat → List Int → Int → Int → Bool → Int → List (S83) → Option (List Int × Bool)
 | 0, _, _, _, _, _, _ => none
 | k + 1, x1, x2, x3, x38, x102000, x102001 => if x38 = true then (some (([] : List Int), false)) else ((impl_copyInts.f x1).bind fun t106 => ((impl_fire.f k x102000 x102001 t106 x3 1).bind fun t109 => (if 0 ≤ x2 then (if x2 < (t106.length : Int) then (some ((t109.set (x2 : Int).toNat 0), true)) else (none)) else (none))))
def impl_Topple.f (k : Nat) (a0_0 : Int) (l0_1 : List (S83)) (l1 : List Int) (a2 : Int) (a3 : Int) : Option (List Int × Bool) := (impl_PileOk.f k a0_0 l0_1 l1 a2).bind fun t102 => (if t102 = true then (if a3 = a2 then (impl_Topple.j0 k l1 a2 a3 true a0_0 l0_1) else ((impl_within.f a3 0 (wrap64 (a0_0 - 1))).bind fun t103 => (if t103 = true then (if 0 ≤ a3 then (if a3 < (l1.length : Int) then ((impl_Valence.f k a0_0 l0_1 a3).bind fun t105 => (impl_Topple.j0 k l1 a2 a3 (decide ((rd l1 a3) < t105)) a0_0 l0_1)) else (none)) else (none)) else (impl_Topple.j0 k l1 a2 a3 true a0_0 l0_1)))) else (impl_Topple.j0 k l1 a2 a3 true a0_0 l0_1))
theorem impl_Topple.mono_l : ∀ k, (∀ y0 y1 y2 y3 y4 y5, LeO (impl_Topple.j0 k y0 y1 y2 y3 y4 y5) (impl_Topple.j0 (k + 1) y0 y1 y2 y3 y4 y5))
 | 0 => fun _ _ _ _ _ _ r h => by simp [impl_Topple.j0] at h
 | k + 1 => by
  have ih0 := impl_Topple.mono_l k
  ·intro y0 y1 y2 y3 y4 y5
   unfold impl_Topple.j0
   exact zm17
theorem impl_Topple.mono : ∀ a0 a1 a2 a3 a4 k, LeO (impl_Topple.f k a0 a1 a2 a3 a4) (impl_Topple.f (k + 1) a0 a1 a2 a3 a4) := by
 intro a0 a1 a2 a3 a4 k; have ih0 := impl_Topple.mono_l k; unfold impl_Topple.f; exact zm17
def spec_l10Settle.l0 : Nat → Int → List Int → List Int → Int → List (S83) → Option (List Int × List Int)
 | 0, _, _, _, _, _ => none
 | k + 1, x2, x8, x9, x102000, x102001 => (spec_l10Unstable.f k x102000 x102001 x8 x2).bind fun t111 => (if t111 < 0 then (some (x8, x9)) else ((spec_l10Topple.f k x102000 x102001 x8 x2 t111).bind fun t112 => (if 0 ≤ t111 then (if t111 < (x9.length : Int) then (spec_l10Settle.l0 k x2 t112 (x9.set (t111 : Int).toNat (wrap64 ((rd x9 t111) + 1))) x102000 x102001) else (none)) else (none))))
def spec_l10Settle.f (k : Nat) (a0_0 : Int) (l0_1 : List (S83)) (l1 : List Int) (a2 : Int) : Option (List Int × List Int) := (some (([] : List Int) : List Int)).bind fun y102 => (if y102.length + l1.length < 17592186044416 then (if 0 ≤ a0_0 then (if (a0_0 : Int).toNat ≤ 35184372088832 then (spec_l10Settle.l0 k a2 (y102 ++ l1) (List.replicate (a0_0 : Int).toNat 0) a0_0 l0_1) else (none)) else (none)) else (none))
theorem spec_l10Settle.mono_l : ∀ k, (∀ y0 y1 y2 y3 y4, LeO (spec_l10Settle.l0 k y0 y1 y2 y3 y4) (spec_l10Settle.l0 (k + 1) y0 y1 y2 y3 y4))
 | 0 => fun _ _ _ _ _ r h => by simp [spec_l10Settle.l0] at h
 | k + 1 => by
  have ih0 := spec_l10Settle.mono_l k
  ·intro y0 y1 y2 y3 y4
   unfold spec_l10Settle.l0
   exact zm19
theorem spec_l10Settle.mono : ∀ a0 a1 a2 a3 k, LeO (spec_l10Settle.f k a0 a1 a2 a3) (spec_l10Settle.f (k + 1) a0 a1 a2 a3) := by
 intro a0 a1 a2 a3 k; have ih0 := spec_l10Settle.mono_l k; unfold spec_l10Settle.f; exact zm19
def impl_stabilize.l0 : Nat → Int → List Int → List Int → Int → Int → List (S83) → Option (List Int × List Int)
 | 0, _, _, _, _, _, _ => none
 | k + 1, x2, x8, x9, x10, x102000, x102001 => if x10 ≥ 0 then (if 0 ≤ x10 then (if x10 < (x8.length : Int) then ((impl_Valence.f k x102000 x102001 x10).bind fun t110 => (if t110 = 0 then (none) else ((impl_fire.f k x102000 x102001 x8 x10 (wrap64 (Int.tdiv (rd x8 x10) t110))).bind fun t111 => (if x10 < (x9.length : Int) then ((impl_unstable.f k x102000 x102001 t111 x2).bind fun t114 => (impl_stabilize.l0 k x2 t111 (x9.set (x10 : Int).toNat (wrap64 ((rd x9 x10) + (wrap64 (Int.tdiv (rd x8 x10) t110))))) t114 x102000 x102001)) else (none))))) else (none)) else (none)) else (if 0 ≤ x2 then (if x2 < (x8.length : Int) then (some ((x8.set (x2 : Int).toNat 0), x9)) else (none)) else (none))
def impl_stabilize.f (k : Nat) (a0_0 : Int) (l0_1 : List (S83)) (l1 : List Int) (a2 : Int) : Option (List Int × List Int) := (impl_copyInts.f l1).bind fun t102 => (if 0 ≤ a0_0 then (if (a0_0 : Int).toNat ≤ 35184372088832 then ((impl_unstable.f k a0_0 l0_1 t102 a2).bind fun t108 => (impl_stabilize.l0 k a2 t102 (List.replicate (a0_0 : Int).toNat 0) t108 a0_0 l0_1)) else (none)) else (none))
theorem impl_stabilize.mono_l : ∀ k, (∀ y0 y1 y2 y3 y4 y5, LeO (impl_stabilize.l0 k y0 y1 y2 y3 y4 y5) (impl_stabilize.l0 (k + 1) y0 y1 y2 y3 y4 y5))
 | 0 => fun _ _ _ _ _ _ r h => by simp [impl_stabilize.l0] at h
 | k + 1 => by
  have ih0 := impl_stabilize.mono_l k
  ·intro y0 y1 y2 y3 y4 y5
   unfold impl_stabilize.l0
   exact zm15
theorem impl_stabilize.mono : ∀ a0 a1 a2 a3 k, LeO (impl_stabilize.f k a0 a1 a2 a3) (impl_stabilize.f (k + 1) a0 a1 a2 a3) := by
 intro a0 a1 a2 a3 k; have ih0 := impl_stabilize.mono_l k; unfold impl_stabilize.f; exact zm15
end Go.Proofs.Ytgobnfeahffnaaa.P
end

section
namespace Go.Proofs.Ytgobnfeahffnaaa.Cf
set_option linter.unusedVariables false
set_option linter.unusedSimpArgs false
open Go.RowKit Go.Proofs.YtgobnfeahffnaaaW.PrintWords Go.Proofs.Ytgobnfeahffnaaa.P
theorem Less.congr {n : Nat} {es : List E} (hes : ∀ e ∈ es, EOk n e) {d x : List Int} {s t : Int → Int} (h : Less es d s x) (he : ∀ w : Int, 0 ≤ w → w < n → s w = t w) : Less es d t x :=
  ⟨h.1, fun w h0 h1 => by rw [h.2 w h0 h1, lap_congr hes he]⟩
/-- Where the graph is valid. -/
structure Gr (n : Nat) (es : List E) (q : Int) : Prop where
  n1 : 1 ≤ n
  n6 : n ≤ 6
  hes : ∀ e ∈ es, EOk n e
  hel : es.length ≤ 12
  hj : Joined n es
  hq : 0 ≤ q ∧ q < n
theorem Gr.of {n : Nat} {es : List E} {q : Int} (h : GOk (n : Int) es) (hq : 0 ≤ q ∧ q < n) : Gr n es q := by
  obtain ⟨h1, _, h3⟩ := h
  unfold EsOk at h1
  exact ⟨by omega, by omega, h1.2.2.2, h1.2.2.1, h3, hq⟩
end Go.Proofs.Ytgobnfeahffnaaa.Cf
end

section
namespace Go.Proofs.Ytgobnfeahffnaaa.P
open Go.RowKit Go.Proofs.YtgobnfeahffnaaaW.PrintWords Go.Proofs.YtgobnfeahffnaaaW.PrintLast Go.Proofs.YtgobnfeahffnaaaW.PrintMore
attribute [local go_sem] max2_int min2_int max_two min_two max_three min_three max_four min_four
set_option linter.unusedVariables false
set_option linter.unusedSimpArgs false
mutual
def spec_l05Burn.l0 : Nat → List Int → List Int → List Bool → Int → List (S83) → Option (List Int)
 | 0, _, _, _, _, _ => none
 | k + 1, x1, x7, x8, x102000, x102001 => spec_l05Burn.l1 k x1 x7 x8 (-1) (wrap64 (x102000 - 1)) x102000 x102001
def spec_l05Burn.l1 : Nat → List Int → List Int → List Bool → Int → Int → Int → List (S83) → Option (List Int)
 | 0, _, _, _, _, _, _, _ => none
 | k + 1, x1, x7, x8, x9, x10, x102000, x102001 => if x10 ≥ 0 then (spec_l05Burn.l2 k x1 x7 x8 x9 x10 0 0 x102000 x102001) else (if x9 < 0 then (some x7) else (if 0 ≤ x9 then (if x9 < (x8.length : Int) then (if x7.length < 17592186044416 then (spec_l05Burn.l0 k x1 (x7 ++ [x9]) (x8.set (x9 : Int).toNat true) x102000 x102001) else (none)) else (none)) else (none)))
def spec_l05Burn.l2 : Nat → List Int → List Int → List Bool → Int → Int → Int → Int → Int → List (S83) → Option (List Int)
 | 0, _, _, _, _, _, _, _, _, _ => none
 | k + 1, x1, x7, x8, x9, x10, x11, x12, x102000, x102001 => if x12 < x102000 then (if 0 ≤ x12 then (if x12 < (x8.length : Int) then (if rdOf false x8 x12 = true then ((spec_Multiplicity.f k x102000 x102001 x10 x12).bind fun t114 => (spec_l05Burn.l2 k x1 x7 x8 x9 x10 (wrap64 (x11 + t114)) (wrap64 (x12 + 1)) x102000 x102001)) else (spec_l05Burn.l2 k x1 x7 x8 x9 x10 x11 (wrap64 (x12 + 1)) x102000 x102001)) else (none)) else (none)) else (if 0 ≤ x10 then (if x10 < (x8.length : Int) then (if rdOf false x8 x10 = true then (spec_l05Burn.l1 k x1 x7 x8 x9 (wrap64 (x10 - 1)) x102000 x102001) else (if x10 < (x1.length : Int) then (if (rd x1 x10) < x11 then (spec_l05Burn.l1 k x1 x7 x8 x10 (wrap64 (x10 - 1)) x102000 x102001) else (spec_l05Burn.l1 k x1 x7 x8 x9 (wrap64 (x10 - 1)) x102000 x102001)) else (none))) else (none)) else (none))
end
def spec_l05Burn.f (k : Nat) (a0_0 : Int) (l0_1 : List (S83)) (l1 : List Int) (a2 : Int) : Option (List Int) := if 0 ≤ a0_0 then (if (a0_0 : Int).toNat ≤ 281474976710656 then ((some (List.replicate (a0_0 : Int).toNat false : List Bool)).bind fun y105 => (if 0 ≤ a2 then (if a2 < (y105.length : Int) then (spec_l05Burn.l0 k l1 (([a2] : List Int)) (y105.set (a2 : Int).toNat true) a0_0 l0_1) else (none)) else (none))) else (none)) else (none)
theorem spec_l05Burn.mono_l : ∀ k, (∀ y0 y1 y2 y3 y4, LeO (spec_l05Burn.l0 k y0 y1 y2 y3 y4) (spec_l05Burn.l0 (k + 1) y0 y1 y2 y3 y4)) ∧ (∀ y0 y1 y2 y3 y4 y5 y6, LeO (spec_l05Burn.l1 k y0 y1 y2 y3 y4 y5 y6) (spec_l05Burn.l1 (k + 1) y0 y1 y2 y3 y4 y5 y6)) ∧ (∀ y0 y1 y2 y3 y4 y5 y6 y7 y8, LeO (spec_l05Burn.l2 k y0 y1 y2 y3 y4 y5 y6 y7 y8) (spec_l05Burn.l2 (k + 1) y0 y1 y2 y3 y4 y5 y6 y7 y8))
 | 0 => ⟨fun _ _ _ _ _ r h => by simp [spec_l05Burn.l0] at h, fun _ _ _ _ _ _ _ r h => by simp [spec_l05Burn.l1] at h, fun _ _ _ _ _ _ _ _ _ r h => by simp [spec_l05Burn.l2] at h⟩
 | k + 1 => by
  obtain ⟨ih0, ih1, ih2⟩ := spec_l05Burn.mono_l k
  refine ⟨?_, ?_, ?_⟩
  ·intro y0 y1 y2 y3 y4
   unfold spec_l05Burn.l0
   exact zm10
  ·intro y0 y1 y2 y3 y4 y5 y6
   unfold spec_l05Burn.l1
   exact zm10
  ·intro y0 y1 y2 y3 y4 y5 y6 y7 y8
   unfold spec_l05Burn.l2
   exact zm10
theorem spec_l05Burn.mono : ∀ a0 a1 a2 a3 k, LeO (spec_l05Burn.f k a0 a1 a2 a3) (spec_l05Burn.f (k + 1) a0 a1 a2 a3) := by
 intro a0 a1 a2 a3 k; obtain ⟨ih0, ih1, ih2⟩ := spec_l05Burn.mono_l k; unfold spec_l05Burn.f; exact zm10
end Go.Proofs.Ytgobnfeahffnaaa.P
end

section
namespace Go.Proofs.Ytgobnfeahffnaaa.Cf
set_option linter.unusedVariables false
set_option linter.unusedSimpArgs false
open Go.RowKit Go.Proofs.YtgobnfeahffnaaaW.PrintWords Go.Proofs.YtgobnfeahffnaaaW.PrintMore Go.Proofs.Ytgobnfeahffnaaa.P
theorem multE_alt {n : Int} {e : E} (h : EOk n e) {a b : Int} (hab : a ≠ b) : multE a b e = if e.f0 = mn a b ∧ e.f1 = mx a b then 1 else 0 := by
  unfold EOk at h
  unfold multE mn mx
  by_cases c : b < a
  · rw [if_pos c, if_neg (show ¬ a < b by omega)]
    by_cases x : e.f0 = b ∧ e.f1 = a
    · rw [if_pos (.inr x), if_pos x]
    · rw [if_neg (by omega), if_neg x]
  · rw [if_neg c, if_pos (show a < b by omega)]
    by_cases x : e.f0 = a ∧ e.f1 = b
    · rw [if_pos (.inl x), if_pos x]
    · rw [if_neg (by omega), if_neg x]
theorem mult_self {n : Int} {es : List E} (hes : ∀ e ∈ es, EOk n e) (a : Int) : mult es a a = 0 := by
  apply sumE_zero
  intro e he
  have h := hes e he
  unfold EOk at h
  unfold multE
  rw [if_neg (by omega)]
theorem mult_drop {es : List E} {i : Nat} (h : i < es.length) (a b : Int) : mult (es.drop i) a b = multE a b es[i] + mult (es.drop (i + 1)) a b := by
  rw [List.drop_eq_getElem_cons h]
  exact sumE_cons _ _ _
theorem specMult_l0 (n : Int) (es : List E) (hes : ∀ e ∈ es, EOk n e) (hel : es.length ≤ 12) (a b : Int) (hab : a ≠ b) : ∀ (d i : Nat) (c : Int), i + d = es.length → 0 ≤ c → c ≤ i → Ep (fun k => spec_Multiplicity.l0 k a b c es (es.length : Int) (i : Int)) (· = c + mult (es.drop i) a b) := by
  intro d
  induction d with
  | zero =>
    intro i c hi h0 h1
    refine Ep.up ?_
    simp only [spec_Multiplicity.l0]
    refine Ep.neg (by omega) (Ep.now ?_)
    rw [List.drop_of_length_le (by omega)]
    simp [mult, sumE]
  | succ d ih =>
    intro i c hi h0 h1
    have hlt : i < es.length := by omega
    have hk := hes _ (List.getElem_mem hlt)
    refine Ep.up ?_
    simp only [spec_Multiplicity.l0]
    refine Ep.pos (by omega) (Ep.pos (by omega) (Ep.pos (by omega) ?_))
    rw [rdE_get hlt, wrap_succ (by omega), wrap_id (x := c + 1) (by omega) (by omega), mult_drop hlt, multE_alt hk hab]
    refine Ep.ite (fun h => Ep.ite (fun h2 => ?_) (fun h2 => ?_)) (fun h => ?_)
    · rw [if_pos ⟨h, h2⟩]
      refine (ih (i + 1) (c + 1) (by omega) (by omega) (by omega)).mono ?_
      rintro _ rfl
      omega
    · rw [if_neg (fun x => h2 x.2)]
      refine (ih (i + 1) c (by omega) (by omega) (by omega)).mono ?_
      rintro _ rfl
      omega
    · rw [if_neg (fun x => h x.1)]
      refine (ih (i + 1) c (by omega) (by omega) (by omega)).mono ?_
      rintro _ rfl
      omega
theorem l02Vert_eq (n : Int) (es : List E) (v : Int) : spec_l02Vert.f n es v = some (decide (0 ≤ v ∧ v < n)) := by
  unfold spec_l02Vert.f
  by_cases h : v ≥ 0
  · rw [if_pos h]
    have : (0 ≤ v ∧ v < n) ↔ v < n := ⟨fun x => x.2, fun x => ⟨h, x⟩⟩
    simp only [this]
  · rw [if_neg h]
    have : ¬ (0 ≤ v ∧ v < n) := fun x => h x.1
    simp only [this, decide_false]
theorem specMult (n : Int) (es : List E) (hes : ∀ e ∈ es, EOk n e) (hel : es.length ≤ 12) (a b : Int) (ha : 0 ≤ a ∧ a < n) (hb : 0 ≤ b ∧ b < n) : Ep (fun k => spec_Multiplicity.f k n es a b) (· = mult es a b) := by
  simp only [spec_Multiplicity.f]
  refine Ep.bind0 (l02Vert_eq _ _ _) (Ep.pos (by simpa using ha) (Ep.bind0 (l02Vert_eq _ _ _) (Ep.pos (by simpa using hb) ?_)))
  refine Ep.up ?_
  simp only [spec_Multiplicity.j0]
  refine Ep.ite (fun h => Ep.now ?_) (fun h => ?_)
  · have : a = b := by simpa using h
    rw [this, mult_self hes]
  · have hab : a ≠ b := by simpa using h
    refine (specMult_l0 n es hes hel a b hab es.length 0 0 (by omega) (by omega) (by omega)).mono ?_
    rintro _ rfl
    simp
theorem implMult_l0 (n : Int) (es : List E) (hes : ∀ e ∈ es, EOk n e) (hel : es.length ≤ 12) (a b : Int) (hab : a ≠ b) : ∀ (d i : Nat) (c : Int), i + d = es.length → 0 ≤ c → c ≤ i → Ep (fun k => impl_Multiplicity.l0 k a b c es (es.length : Int) (i : Int)) (· = c + mult (es.drop i) a b) := by
  intro d
  induction d with
  | zero =>
    intro i c hi h0 h1
    refine Ep.up ?_
    simp only [impl_Multiplicity.l0]
    refine Ep.neg (by omega) (Ep.now ?_)
    rw [List.drop_of_length_le (by omega)]
    simp [mult, sumE]
  | succ d ih =>
    intro i c hi h0 h1
    have hlt : i < es.length := by omega
    have hk := hes _ (List.getElem_mem hlt)
    refine Ep.up ?_
    simp only [impl_Multiplicity.l0]
    refine Ep.pos (by omega) (Ep.pos (by omega) (Ep.pos (by omega) ?_))
    rw [rdE_get hlt, wrap_succ (by omega), wrap_id (x := c + 1) (by omega) (by omega), mult_drop hlt, multE_alt hk hab]
    refine Ep.ite (fun h => Ep.ite (fun h2 => ?_) (fun h2 => ?_)) (fun h => ?_)
    · rw [if_pos ⟨h, h2⟩]
      refine (ih (i + 1) (c + 1) (by omega) (by omega) (by omega)).mono ?_
      rintro _ rfl
      omega
    · rw [if_neg (fun x => h2 x.2)]
      refine (ih (i + 1) c (by omega) (by omega) (by omega)).mono ?_
      rintro _ rfl
      omega
    · rw [if_neg (fun x => h x.1)]
      refine (ih (i + 1) c (by omega) (by omega) (by omega)).mono ?_
      rintro _ rfl
      omega
theorem implMult (n : Int) (es : List E) (hes : ∀ e ∈ es, EOk n e) (hel : es.length ≤ 12) (a b : Int) (ha : 0 ≤ a ∧ a < n) (hb : 0 ≤ b ∧ b < n) : Ep (fun k => impl_Multiplicity.f k n es a b) (· = mult es a b) := by
  simp only [impl_Multiplicity.f]
  refine Ep.neg (by unfold mn; split <;> omega) (Ep.neg (by unfold mx; split <;> omega) ?_)
  refine Ep.up ?_
  simp only [impl_Multiplicity.j0]
  refine Ep.ite (fun h => Ep.now ?_) (fun h => ?_)
  · have : a = b := by simpa using h
    rw [this, mult_self hes]
  · have hab : a ≠ b := by simpa using h
    refine (implMult_l0 n es hes hel a b hab es.length 0 0 (by omega) (by omega) (by omega)).mono ?_
    rintro _ rfl
    simp
/-- The first place, counted from i; or -1. -/
def idxF (x : Int) : List Int → Nat → Int
  | [], _ => -1
  | a :: r, i => if x = a then i else idxF x r (i + 1)
theorem idxF_drop {l : List Int} {i : Nat} (h : i < l.length) (x : Int) (j : Nat) : idxF x (l.drop i) j = if x = l[i] then (j : Int) else idxF x (l.drop (i + 1)) (j + 1) := by
  rw [List.drop_eq_getElem_cons h]
  rfl
theorem idxF_mem (x : Int) : ∀ (l : List Int) (i : Nat), 0 ≤ idxF x l i ↔ x ∈ l
  | [], i => by simp [idxF]
  | a :: r, i => by
    unfold idxF
    by_cases h : x = a
    · rw [if_pos h, h]; simp
    · rw [if_neg h, idxF_mem x r (i + 1)]; simp [h]
theorem index_l0 (l : List Int) (x : Int) (hl : l.length ≤ 1048576) : ∀ (d i : Nat), i + d = l.length → Ep (fun k => slices_Index_int_int.l0 k l x (l.length : Int) (i : Int)) (· = idxF x (l.drop i) i) := by
  intro d
  induction d with
  | zero =>
    intro i hi
    refine Ep.up ?_
    simp only [slices_Index_int_int.l0]
    refine Ep.neg (by omega) (Ep.now ?_)
    rw [List.drop_of_length_le (by omega)]
    rfl
  | succ d ih =>
    intro i hi
    have hlt : i < l.length := by omega
    refine Ep.up ?_
    simp only [slices_Index_int_int.l0]
    refine Ep.pos (by omega) (Ep.pos (by omega) (Ep.pos (by omega) ?_))
    rw [rd_get hlt, wrap_succ (by omega), idxF_drop hlt]
    refine Ep.ite (fun h => Ep.now ?_) (fun h => ?_)
    · rw [if_pos h]
    · rw [if_neg h]
      exact ih (i + 1) (by omega)
theorem index_ok (l : List Int) (x : Int) (hl : l.length ≤ 1048576) : Ep (fun k => slices_Index_int_int.f k l x) (· = idxF x l 0) := by
  have := index_l0 l x hl l.length 0 (by omega)
  simp only [slices_Index_int_int.f]
  exact this
theorem contains_ok (l : List Int) (x : Int) (hl : l.length ≤ 1048576) : Ep (fun k => slices_Contains_int_int.f k l x) (· = decide (x ∈ l)) := by
  simp only [slices_Contains_int_int.f]
  refine Ep.bind (index_ok l x hl) ?_
  rintro _ rfl
  refine Ep.now ?_
  have := idxF_mem x l 0
  simp only [ge_iff_le, this]
theorem burnSum_bd {es : List E} (hel : es.length ≤ 12) (v : Int) : ∀ (b : List Int), 0 ≤ burnSum es b v ∧ burnSum es b v ≤ 12 * b.length
  | [] => by simp [burnSum]
  | a :: r => by
    have ih := burnSum_bd hel v r
    have h0 := mult_nonneg es v a
    have h1 := mult_le es v a
    unfold burnSum at ih ⊢
    rw [List.map_cons, List.sum_cons, List.length_cons]
    omega
/-- The list of truth values tells what burns. -/
def BRep (n : Nat) (x : List Bool) (b : List Int) : Prop := x.length = n ∧ ∀ w : Nat, w < n → rdOf false x (w : Int) = decide ((w : Int) ∈ b)
theorem BRep.push {n : Nat} {x : List Bool} {b : List Int} (h : BRep n x b) {v : Nat} (hv : v < n) : BRep n (x.set v true) (b ++ [(v : Int)]) := by
  refine ⟨by rw [List.length_set]; exact h.1, fun w hw => ?_⟩
  have := h.2 w hw
  simp only [rdOf, Int.toNat_natCast, List.getD_eq_getElem?_getD] at this ⊢
  by_cases e : v = w
  · subst e
    rw [List.getElem?_set_self (by have := h.1; omega)]
    simp
  · rw [List.getElem?_set_ne e, this]
    have : ¬ (w : Int) = v := by omega
    simp [this]
theorem BRep.start {n : Nat} {q : Int} (h0 : 0 ≤ q) (h1 : q < n) : BRep n ((List.replicate n false).set q.toNat true) [q] := by
  have h : BRep n (List.replicate n false) [] := ⟨by simp, fun w hw => by simp [rdOf, hw]⟩
  have := h.push (v := q.toNat) (by omega)
  have e : ((q.toNat : Nat) : Int) = q := by omega
  rw [e] at this
  exact this
theorem specBurn_l2 {n : Nat} {es : List E} {q : Int} (g : Gr n es q) (d : List Int) (hd : d.length = n) (b : List Int) (hok : b.Nodup ∧ ∀ v ∈ b, 0 ≤ v ∧ v < n) (x : List Bool) (hx : BRep n x b) (v : Nat) (hv : v < n) (next : Int) {Q : List Int → Prop}
    (hk : Ep (fun k => spec_l05Burn.l1 k d b x (if (v : Int) ∉ b ∧ rd d v < burnSum es b v then (v : Int) else next) ((v : Int) - 1) (n : Int) es) Q) :
    ∀ (dd i : Nat), i + dd = n → Ep (fun k => spec_l05Burn.l2 k d b x next (v : Int) (sumN i (fun w => if (w : Int) ∈ b then mult es v w else 0)) (i : Int) (n : Int) es) Q := by
  have hn := g.n6
  have hel := g.hel
  have hxl := hx.1
  have hbd : ∀ i, i ≤ n → 0 ≤ sumN i (fun w => if (w : Int) ∈ b then mult es v w else 0) ∧ sumN i (fun w => if (w : Int) ∈ b then mult es v w else 0) ≤ i * 12 := by
    intro i hi
    have hm : ∀ w : Nat, 0 ≤ (if (w : Int) ∈ b then mult es v w else 0) ∧ (if (w : Int) ∈ b then mult es v w else 0) ≤ 12 := by
      intro w
      have h0 := mult_nonneg es v w
      have h1 := mult_le es v w
      split <;> omega
    exact ⟨sumN_nonneg fun w _ => (hm w).1, sumN_le_const fun w _ => (hm w).2⟩
  intro dd
  induction dd with
  | zero =>
    intro i hi
    obtain rfl : i = n := by omega
    rw [sum_pick (mult es v) i b hok.1 hok.2]
    show Ep (fun k => spec_l05Burn.l2 k d b x next (v : Int) (burnSum es b v) (i : Int) (i : Int) es) Q
    refine Ep.up ?_
    simp only [spec_l05Burn.l2]
    rw [wrap_id (x := (v : Int) - 1) (by omega) (by omega)]
    refine Ep.neg (by omega) (Ep.pos (by omega) (Ep.pos (by omega) ?_))
    rw [hx.2 v hv]
    refine Ep.ite (fun h => ?_) (fun h => ?_)
    · have h' : (v : Int) ∈ b := by simpa using h
      rw [if_neg (fun y => y.1 h')] at hk
      exact hk
    · have h' : (v : Int) ∉ b := by simpa using h
      refine Ep.pos (by omega) (Ep.ite (fun h2 => ?_) (fun h2 => ?_))
      · rw [if_pos ⟨h', h2⟩] at hk
        exact hk
      · rw [if_neg (fun y => h2 y.2)] at hk
        exact hk
  | succ dd ih =>
    intro i hi
    have hb := hbd i (by omega)
    have hb1 := hbd (i + 1) (by omega)
    have ih' := ih (i + 1) (by omega)
    simp only [sumN] at ih' hb1
    refine Ep.up ?_
    simp only [spec_l05Burn.l2]
    refine Ep.pos (by omega) (Ep.pos (by omega) (Ep.pos (by omega) ?_))
    rw [hx.2 i (by omega), wrap_succ (by omega)]
    refine Ep.ite (fun h => ?_) (fun h => ?_)
    · have h' : (i : Int) ∈ b := by simpa using h
      rw [if_pos h'] at ih' hb1
      refine Ep.bind (specMult n es g.hes hel v i (by omega) (by omega)) ?_
      rintro _ rfl
      rw [wrap_id (by omega) (by omega)]
      exact ih'
    · have h' : (i : Int) ∉ b := by simpa using h
      rw [if_neg h', Int.add_zero] at ih'
      exact ih'
theorem specBurn_l1 {n : Nat} {es : List E} {q : Int} (g : Gr n es q) (d : List Int) (hd : d.length = n) (b : List Int) (hok : b.Nodup ∧ ∀ v ∈ b, 0 ≤ v ∧ v < n) (x : List Bool) (hx : BRep n x b) {Q : List Int → Prop}
    (hk : Ep (fun k => spec_l05Burn.l1 k d b x (nextB es (rd d) b n 0) (-1) (n : Int) es) Q) :
    ∀ i : Nat, i ≤ n → Ep (fun k => spec_l05Burn.l1 k d b x (nextB es (rd d) b (n - i) i) ((i : Int) - 1) (n : Int) es) Q := by
  have hn := g.n6
  intro i
  induction i with
  | zero => intro _; exact hk
  | succ i ih =>
    intro hi
    have ih' := ih (by omega)
    obtain ⟨m, hm⟩ : ∃ m, n - i = m + 1 := ⟨n - i - 1, by omega⟩
    have hm2 : n - (i + 1) = m := by omega
    rw [hm] at ih'
    unfold nextB at ih'
    rw [hm2, show (((i + 1 : Nat) : Int) - 1) = (i : Int) by omega]
    refine Ep.up ?_
    simp only [spec_l05Burn.l1]
    refine Ep.pos (by omega) ?_
    exact specBurn_l2 g d hd b hok x hx i (by omega) _ ih' n 0 (by omega)
theorem specBurn_l0 {n : Nat} {es : List E} {q : Int} (g : Gr n es q) (d : List Int) (hd : d.length = n) : ∀ (k : Nat) (b : List Int) (x : List Bool), n + 1 ≤ b.length + k → Burn n es (rd d) q b → BRep n x b → Ep (fun f => spec_l05Burn.l0 f d b x (n : Int) es) (· = burnW n es (rd d) k b) := by
  have hn := g.n6
  intro k
  induction k with
  | zero =>
    intro b x hl hb _
    have := hb.len g.hq
    omega
  | succ k ih =>
    intro b x hl hb hx
    have hok := hb.ok g.hq
    have hlen := hb.len g.hq
    have hxl := hx.1
    refine Ep.up ?_
    simp only [spec_l05Burn.l0]
    rw [wrap_id (x := (n : Int) - 1) (by omega) (by omega)]
    have h1 := specBurn_l1 (Q := (· = burnW n es (rd d) (k + 1) b)) g d hd b ⟨hok.1, hok.2.1⟩ x hx ?_ n (Nat.le_refl _)
    · rw [Nat.sub_self] at h1
      exact h1
    · unfold burnW
      have hnx := nextB_ok es (rd d) b n 0
      generalize nextB es (rd d) b n 0 = v at hnx ⊢
      refine Ep.up ?_
      simp only [spec_l05Burn.l1]
      refine Ep.neg (by omega) (Ep.ite (fun h => Ep.now ?_) (fun h => ?_))
      · rw [if_pos h]
      · rw [if_neg h]
        rcases hnx with ⟨h2, _⟩ | ⟨h2, h3, h4, h5⟩
        · omega
        · obtain ⟨v, rfl⟩ := Int.eq_ofNat_of_zero_le (a := v) (by omega)
          refine Ep.pos (by omega) (Ep.pos (by omega) (Ep.pos (by omega) ?_))
          exact ih _ _ (by simp; omega) (hb.step (by omega) (by omega) h4 h5) (hx.push (by omega))
theorem specBurn {n : Nat} {es : List E} {q : Int} (g : Gr n es q) (d : List Int) (hd : d.length = n) : Ep (fun k => spec_l05Burn.f k (n : Int) es d q) (· = burnF n es (rd d) q) := by
  have hn := g.n6
  have hq := g.hq
  simp only [spec_l05Burn.f]
  refine Ep.pos (by omega) (Ep.pos (by omega) (Ep.bind0 rfl (Ep.pos (by omega) (Ep.pos (by simp; omega) ?_))))
  exact specBurn_l0 g d hd n [q] _ (by simp; omega) .start (BRep.start hq.1 hq.2)
theorem implBurn_l2 {n : Nat} {es : List E} {q : Int} (g : Gr n es q) (d : List Int) (hd : d.length = n) (b : List Int) (hok : b.Nodup ∧ ∀ v ∈ b, 0 ≤ v ∧ v < n) (hbl : b.length ≤ n) (v : Nat) (hv : v < n) {Q : List Int → Prop}
    (hk : Ep (fun k => impl_burn.l1 k d b (if (v : Int) ∉ b ∧ rd d v < burnSum es b v then (v : Int) else -1) ((v + 1 : Nat) : Int) (n : Int) es) Q) :
    ∀ (dd i : Nat), i + dd = b.length → Ep (fun k => impl_burn.l2 k d b (-1) (v : Int) (burnSum es (b.take i) v) b (b.length : Int) (i : Int) (n : Int) es) Q := by
  have hn := g.n6
  have hel := g.hel
  intro dd
  induction dd with
  | zero =>
    intro i hi
    rw [List.take_of_length_le (by omega)]
    refine Ep.up ?_
    simp only [impl_burn.l2]
    have hw := wrap_succ (i := v) (by omega)
    rw [hw]
    refine Ep.neg (by omega) ?_
    refine Ep.bind (contains_ok b v (by omega)) ?_
    rintro _ rfl
    refine Ep.ite (fun h => ?_) (fun h => ?_)
    · have h' : (v : Int) ∈ b := by simpa using h
      rw [if_neg (fun y => y.1 h')] at hk
      exact hk
    · have h' : (v : Int) ∉ b := by simpa using h
      refine Ep.pos (by omega) (Ep.pos (by omega) (Ep.ite (fun h2 => ?_) (fun h2 => ?_)))
      · rw [if_pos ⟨h', h2⟩] at hk
        exact hk
      · rw [if_neg (fun y => h2 y.2)] at hk
        exact hk
  | succ dd ih =>
    intro i hi
    have hlt : i < b.length := by omega
    have hbi := hok.2 _ (List.getElem_mem hlt)
    have hb := burnSum_bd hel v (b.take i)
    have hml := mult_le es v b[i]
    have hm0 := mult_nonneg es v b[i]
    rw [List.length_take] at hb
    have e : burnSum es (b.take (i + 1)) v = burnSum es (b.take i) v + mult es v b[i] := by
      unfold burnSum
      rw [List.take_succ_eq_append_getElem hlt, List.map_append, List.sum_append]
      simp
    have ih' := ih (i + 1) (by omega)
    rw [e] at ih'
    refine Ep.up ?_
    simp only [impl_burn.l2]
    refine Ep.pos (by omega) (Ep.pos (by omega) (Ep.pos (by omega) ?_))
    rw [rd_get hlt, wrap_succ (by omega)]
    refine Ep.bind (implMult n es g.hes hel v b[i] (by omega) hbi) ?_
    rintro _ rfl
    rw [wrap_id (by omega) (by omega)]
    exact ih'
theorem implBurn_l1 {n : Nat} {es : List E} {q : Int} (g : Gr n es q) (d : List Int) (hd : d.length = n) (b : List Int) (hok : b.Nodup ∧ ∀ v ∈ b, 0 ≤ v ∧ v < n) (hbl : b.length ≤ n) {Q : List Int → Prop}
    (hk : Ep (fun k => if nextB es (rd d) b n 0 < 0 then some b else (if b.length < 17592186044416 then impl_burn.l0 k d (b ++ [nextB es (rd d) b n 0]) (n : Int) es else none)) Q) :
    ∀ (dd i : Nat), i + dd = n → nextB es (rd d) b n 0 = nextB es (rd d) b dd i → Ep (fun k => impl_burn.l1 k d b (-1) (i : Int) (n : Int) es) Q := by
  have hn := g.n6
  intro dd
  induction dd with
  | zero =>
    intro i hi he
    rw [he] at hk
    simp only [nextB] at hk
    refine Ep.up ?_
    simp only [impl_burn.l1]
    refine Ep.neg (by omega) (Ep.up ?_)
    simp only [impl_burn.j2]
    exact Ep.neg (by simp) hk
  | succ dd ih =>
    intro i hi he
    refine Ep.up ?_
    simp only [impl_burn.l1]
    refine Ep.pos (by omega) (Ep.up ?_)
    simp only [impl_burn.j2]
    refine Ep.pos (by simp) ?_
    have h2 := implBurn_l2 (Q := Q) g d hd b hok hbl i (by omega) ?_ b.length 0 (by omega)
    · simpa [burnSum] using h2
    · replace he : nextB es (rd d) b n 0 = (if (i : Int) ∉ b ∧ rd d i < burnSum es b i then (i : Int) else nextB es (rd d) b dd (i + 1)) := he
      by_cases h : (i : Int) ∉ b ∧ rd d i < burnSum es b i
      · rw [if_pos h] at he ⊢
        rw [he] at hk
        refine Ep.up ?_
        simp only [impl_burn.l1]
        refine Ep.ite (fun _ => ?_) (fun _ => ?_)
        · refine Ep.up ?_
          simp only [impl_burn.j2]
          exact Ep.neg (by simp) hk
        · refine Ep.up ?_
          simp only [impl_burn.j2]
          exact Ep.neg (by simp) hk
      · rw [if_neg h] at he ⊢
        exact ih (i + 1) (by omega) he
theorem implBurn_l0 {n : Nat} {es : List E} {q : Int} (g : Gr n es q) (d : List Int) (hd : d.length = n) : ∀ (k : Nat) (b : List Int), n + 1 ≤ b.length + k → Burn n es (rd d) q b → Ep (fun f => impl_burn.l0 f d b (n : Int) es) (· = burnW n es (rd d) k b) := by
  have hn := g.n6
  intro k
  induction k with
  | zero =>
    intro b hl hb
    have := hb.len g.hq
    omega
  | succ k ih =>
    intro b hl hb
    have hok := hb.ok g.hq
    have hlen := hb.len g.hq
    refine Ep.up ?_
    simp only [impl_burn.l0]
    refine implBurn_l1 (Q := (· = burnW n es (rd d) (k + 1) b)) g d hd b ⟨hok.1, hok.2.1⟩ hlen ?_ n 0 (by omega) rfl
    unfold burnW
    have hnx := nextB_ok es (rd d) b n 0
    generalize nextB es (rd d) b n 0 = v at hnx ⊢
    refine Ep.ite (fun h => Ep.now ?_) (fun h => ?_)
    · rw [if_pos h]
    · rw [if_neg h]
      rcases hnx with ⟨h2, _⟩ | ⟨h2, h3, h4, h5⟩
      · omega
      · exact Ep.pos (by omega) (ih _ (by simp; omega) (hb.step (by omega) (by omega) h4 h5))
theorem implBurn {n : Nat} {es : List E} {q : Int} (g : Gr n es q) (d : List Int) (hd : d.length = n) : Ep (fun k => impl_burn.f k (n : Int) es d q) (· = burnF n es (rd d) q) := by
  have hn := g.n6
  simp only [impl_burn.f]
  exact implBurn_l0 g d hd n [q] (by simp; omega) .start
end Go.Proofs.Ytgobnfeahffnaaa.Cf
end

section
namespace Go.Proofs.Ytgobnfeahffnaaa.P
open Go.RowKit Go.Proofs.YtgobnfeahffnaaaW.PrintWords Go.Proofs.YtgobnfeahffnaaaW.PrintLast Go.Proofs.YtgobnfeahffnaaaW.PrintMore
attribute [local go_sem] max2_int min2_int max_two min_two max_three min_three max_four min_four
set_option linter.unusedVariables false
set_option linter.unusedSimpArgs false
def spec_l05Debt.l0 : Nat → Int → List Int → Int → Int → Option (Bool)
 | 0, _, _, _, _ => none
 | k + 1, x1, x7, x8, x9 => if x9 < x8 then (if 0 ≤ x9 then (if x9 < (x7.length : Int) then (if x9 = x1 then (spec_l05Debt.l0 k x1 x7 x8 (wrap64 (x9 + 1))) else (if (rd x7 x9) < 0 then (some true) else (spec_l05Debt.l0 k x1 x7 x8 (wrap64 (x9 + 1))))) else (none)) else (none)) else (some false)
def spec_l05Debt.f (k : Nat) (l0 : List Int) (a1 : Int) : Option (Bool) := spec_l05Debt.l0 k a1 l0 (l0.length : Int) 0
theorem spec_l05Debt.mono_l : ∀ k, (∀ y0 y1 y2 y3, LeO (spec_l05Debt.l0 k y0 y1 y2 y3) (spec_l05Debt.l0 (k + 1) y0 y1 y2 y3))
 | 0 => fun _ _ _ _ r h => by simp [spec_l05Debt.l0] at h
 | k + 1 => by
  have ih0 := spec_l05Debt.mono_l k
  ·intro y0 y1 y2 y3
   unfold spec_l05Debt.l0
   exact zm0
theorem spec_l05Debt.mono : ∀ a0 a1 k, LeO (spec_l05Debt.f k a0 a1) (spec_l05Debt.f (k + 1) a0 a1) := by
 intro a0 a1 k; have ih0 := spec_l05Debt.mono_l k; unfold spec_l05Debt.f; exact zm0
mutual
def spec_l05Reduce.l0 : Nat → List Int → Int → List Int → List Int → Int → List (S83) → Option (List Int × List Int)
 | 0, _, _, _, _, _, _ => none
 | k + 1, x1, x2, x8, x9, x102000, x102001 => (spec_l05Debt.f k x9 x2).bind fun t111 => (if t111 = true then (spec_l05Reduce.l1 k x1 x2 x8 x9 (x9.length : Int) 0 x102000 x102001) else (spec_l05Reduce.l2 k x1 x2 x8 x9 x102000 x102001))
def spec_l05Reduce.l1 : Nat → List Int → Int → List Int → List Int → Int → Int → Int → List (S83) → Option (List Int × List Int)
 | 0, _, _, _, _, _, _, _, _ => none
 | k + 1, x1, x2, x8, x9, x23, x24, x102000, x102001 => if x24 < x23 then (if x24 = x2 then (spec_l05Reduce.l1 k x1 x2 x8 x9 x23 (wrap64 (x24 + 1)) x102000 x102001) else (if 0 ≤ x24 then (if x24 < (x9.length : Int) then (if (rd x9 x24) < 0 then (if x24 < (x8.length : Int) then ((some (x8.set (x24 : Int).toNat (wrap64 ((rd x8 x24) - 1)) : List Int)).bind fun y114 => ((spec_l04Fire.f k x102000 x102001 x1 y114).bind fun t115 => (spec_l05Reduce.l1 k x1 x2 y114 t115 x23 (wrap64 (x24 + 1)) x102000 x102001))) else (none)) else (spec_l05Reduce.l1 k x1 x2 x8 x9 x23 (wrap64 (x24 + 1)) x102000 x102001)) else (none)) else (none))) else (spec_l05Reduce.l0 k x1 x2 x8 x9 x102000 x102001)
def spec_l05Reduce.l2 : Nat → List Int → Int → List Int → List Int → Int → List (S83) → Option (List Int × List Int)
 | 0, _, _, _, _, _, _ => none
 | k + 1, x1, x2, x8, x9, x102000, x102001 => (spec_l05Burn.f k x102000 x102001 x9 x2).bind fun t118 => (if (t118.length : Int) = x102000 then (some (x9, x8)) else (spec_l05Reduce.l3 k x1 x2 x8 t118 0 x102000 x102001))
def spec_l05Reduce.l3 : Nat → List Int → Int → List Int → List Int → Int → Int → List (S83) → Option (List Int × List Int)
 | 0, _, _, _, _, _, _, _ => none
 | k + 1, x1, x2, x8, x11, x12, x102000, x102001 => if x12 < x102000 then ((spec_l02Has.f k x11 x12).bind fun t121 => (if t121 = true then (spec_l05Reduce.l3 k x1 x2 x8 x11 (wrap64 (x12 + 1)) x102000 x102001) else (if 0 ≤ x12 then (if x12 < (x8.length : Int) then (spec_l05Reduce.l3 k x1 x2 (x8.set (x12 : Int).toNat (wrap64 ((rd x8 x12) + 1))) x11 (wrap64 (x12 + 1)) x102000 x102001) else (none)) else (none)))) else ((spec_l04Fire.f k x102000 x102001 x1 x8).bind fun t124 => (spec_l05Reduce.l2 k x1 x2 x8 t124 x102000 x102001))
end
def spec_l05Reduce.f (k : Nat) (a0_0 : Int) (l0_1 : List (S83)) (l1 : List Int) (a2 : Int) : Option (List Int × List Int) := if 0 ≤ a0_0 then (if (a0_0 : Int).toNat ≤ 35184372088832 then ((some (([] : List Int) : List Int)).bind fun y105 => (if y105.length + l1.length < 17592186044416 then (spec_l05Reduce.l0 k l1 a2 (List.replicate (a0_0 : Int).toNat 0) (y105 ++ l1) a0_0 l0_1) else (none))) else (none)) else (none)
theorem spec_l05Reduce.mono_l : ∀ k, (∀ y0 y1 y2 y3 y4 y5, LeO (spec_l05Reduce.l0 k y0 y1 y2 y3 y4 y5) (spec_l05Reduce.l0 (k + 1) y0 y1 y2 y3 y4 y5)) ∧ (∀ y0 y1 y2 y3 y4 y5 y6 y7, LeO (spec_l05Reduce.l1 k y0 y1 y2 y3 y4 y5 y6 y7) (spec_l05Reduce.l1 (k + 1) y0 y1 y2 y3 y4 y5 y6 y7)) ∧ (∀ y0 y1 y2 y3 y4 y5, LeO (spec_l05Reduce.l2 k y0 y1 y2 y3 y4 y5) (spec_l05Reduce.l2 (k + 1) y0 y1 y2 y3 y4 y5)) ∧ (∀ y0 y1 y2 y3 y4 y5 y6, LeO (spec_l05Reduce.l3 k y0 y1 y2 y3 y4 y5 y6) (spec_l05Reduce.l3 (k + 1) y0 y1 y2 y3 y4 y5 y6))
 | 0 => ⟨fun _ _ _ _ _ _ r h => by simp [spec_l05Reduce.l0] at h, fun _ _ _ _ _ _ _ _ r h => by simp [spec_l05Reduce.l1] at h, fun _ _ _ _ _ _ r h => by simp [spec_l05Reduce.l2] at h, fun _ _ _ _ _ _ _ r h => by simp [spec_l05Reduce.l3] at h⟩
 | k + 1 => by
  obtain ⟨ih0, ih1, ih2, ih3⟩ := spec_l05Reduce.mono_l k
  refine ⟨?_, ?_, ?_, ?_⟩
  ·intro y0 y1 y2 y3 y4 y5
   unfold spec_l05Reduce.l0
   exact zm3
  ·intro y0 y1 y2 y3 y4 y5 y6 y7
   unfold spec_l05Reduce.l1
   exact zm3
  ·intro y0 y1 y2 y3 y4 y5
   unfold spec_l05Reduce.l2
   exact zm3
  ·intro y0 y1 y2 y3 y4 y5 y6
   unfold spec_l05Reduce.l3
   exact zm3
theorem spec_l05Reduce.mono : ∀ a0 a1 a2 a3 k, LeO (spec_l05Reduce.f k a0 a1 a2 a3) (spec_l05Reduce.f (k + 1) a0 a1 a2 a3) := by
 intro a0 a1 a2 a3 k; obtain ⟨ih0, ih1, ih2, ih3⟩ := spec_l05Reduce.mono_l k; unfold spec_l05Reduce.f; exact zm3
end Go.Proofs.Ytgobnfeahffnaaa.P
end

section
namespace Go.Proofs.Ytgobnfeahffnaaa.Cf
set_option linter.unusedVariables false
set_option linter.unusedSimpArgs false
open Go.RowKit Go.Proofs.YtgobnfeahffnaaaW.PrintWords Go.Proofs.Ytgobnfeahffnaaa.P
theorem specDebt_l0 (q : Int) (p : List Int) (hl : p.length ≤ 1048576) : ∀ (d i : Nat), i + d = p.length → Ep (fun k => spec_l05Debt.l0 k q p (p.length : Int) (i : Int)) (· = decide (0 ≤ debtF q p d i)) := by
  intro d
  induction d with
  | zero =>
    intro i hi
    refine Ep.up ?_
    simp only [spec_l05Debt.l0]
    exact Ep.neg (by omega) (Ep.now rfl)
  | succ d ih =>
    intro i hi
    refine Ep.up ?_
    simp only [spec_l05Debt.l0]
    refine Ep.pos (by omega) (Ep.pos (by omega) (Ep.pos (by omega) ?_))
    rw [wrap_succ (by omega)]
    unfold debtF
    refine Ep.ite (fun h => ?_) (fun h => ?_)
    · rw [if_pos h]
      exact ih (i + 1) (by omega)
    · rw [if_neg h]
      refine Ep.ite (fun h2 => Ep.now ?_) (fun h2 => ?_)
      · rw [if_pos h2]
        have : (0 : Int) ≤ i := by omega
        simp
      · rw [if_neg h2]
        exact ih (i + 1) (by omega)
theorem specDebt (p : List Int) (q : Int) (hl : p.length ≤ 1048576) : Ep (fun k => spec_l05Debt.f k p q) (· = decide (0 ≤ debtF q p p.length 0)) := by
  simp only [spec_l05Debt.f]
  exact specDebt_l0 q p hl p.length 0 (by omega)
theorem implDebt_l0 (q : Int) (p : List Int) (hl : p.length ≤ 1048576) : ∀ (d i : Nat), i + d = p.length → Ep (fun k => impl_inDebt.l0 k q p (p.length : Int) (i : Int)) (· = debtF q p d i) := by
  intro d
  induction d with
  | zero =>
    intro i hi
    refine Ep.up ?_
    simp only [impl_inDebt.l0]
    exact Ep.neg (by omega) (Ep.now rfl)
  | succ d ih =>
    intro i hi
    refine Ep.up ?_
    simp only [impl_inDebt.l0]
    refine Ep.pos (by omega) (Ep.pos (by omega) (Ep.pos (by omega) ?_))
    rw [wrap_succ (by omega)]
    unfold debtF
    refine Ep.ite (fun h => ?_) (fun h => ?_)
    · rw [if_pos h]
      exact ih (i + 1) (by omega)
    · rw [if_neg h]
      refine Ep.ite (fun h2 => Ep.now ?_) (fun h2 => ?_)
      · rw [if_pos h2]
      · rw [if_neg h2]
        exact ih (i + 1) (by omega)
theorem implDebt (p : List Int) (q : Int) (hl : p.length ≤ 1048576) : Ep (fun k => impl_inDebt.f k p q) (· = debtF q p p.length 0) := by
  simp only [impl_inDebt.f]
  exact implDebt_l0 q p hl p.length 0 (by omega)
/-- t has been borrowed. -/
def Owed (n : Nat) (es : List E) (q : Int) (d : List Int) (t : Int → Int) : Prop := Legal n es q (dual es (rd d)) t
theorem Owed.bds {n : Nat} {es : List E} {q : Int} (g : Gr n es q) {d : List Int} (hd : d.length = n) (hb : Bd d 1000) {t : Int → Int} (h : Owed n es q d t) :
    (∀ v : Int, 0 ≤ v → v < n → 0 ≤ t v ∧ t v ≤ 36432) ∧ sumN n (fun i => t (i : Int)) ≤ 218592 ∧ t q = 0 ∧ ∀ w : Int, 0 ≤ w → w < n → -440000 ≤ rd d w + lap es t w ∧ rd d w + lap es t w ≤ 440000 := by
  have h1 := Legal.small g.n6 g.hes g.hj g.hq h (c := 1012) (by omega) (fun v h0 h1 h2 => by
    unfold dual
    have := hb v h0 (by omega)
    have := val_le es v
    have := g.hel
    omega)
  refine ⟨fun v h0 h2 => by have := h1.1 v h0 h2; omega, by omega, h.nonneg.2, fun w h0 h2 => ?_⟩
  have h3 := lap_bd g.hes g.hel (s := t) (L := 0) (S := 36432) (by omega) (fun v h0 h2 => by have := h1.1 v h0 h2; omega) w
  have := hb w h0 (by omega)
  omega
theorem Owed.zero {n : Nat} {es : List E} {q : Int} {d : List Int} : Owed n es q d (fun _ => 0) := Legal.zero
theorem Owed.step {n : Nat} {es : List E} {q : Int} {d : List Int} {t : Int → Int} (h : Owed n es q d t) {v : Int} (h0 : 0 ≤ v) (h1 : v < n) (hv : v ≠ q) (hd : rd d v + lap es t v < 0) : Owed n es q d (fun w => t w + one v 1 w) :=
  Legal.step h h0 h1 hv (by unfold dual; omega)
theorem specRed_l1 {n : Nat} {es : List E} {q : Int} (g : Gr n es q) {d : List Int} (hd : d.length = n) (hb : Bd d 1000) (t0 : Int → Int) {Q : List Int × List Int → Prop}
    (hk : ∀ (t : Int → Int) (s x : List Int), Owed n es q d t → Rep n s (fun w => - t w) → Rep n x (fun w => rd d w + lap es t w) → (sumN n (fun i => t0 (i : Int)) < sumN n (fun i => t (i : Int)) ∨ (t = t0 ∧ ∀ v : Int, 0 ≤ v → v < n → v ≠ q → 0 ≤ rd d v + lap es t v)) → Ep (fun k => spec_l05Reduce.l0 k d q s x (n : Int) es) Q) :
    ∀ (dd i : Nat) (t : Int → Int) (s x : List Int), i + dd = n → Owed n es q d t → Rep n s (fun w => - t w) → Rep n x (fun w => rd d w + lap es t w) → (sumN n (fun i => t0 (i : Int)) < sumN n (fun i => t (i : Int)) ∨ (t = t0 ∧ ∀ v : Int, 0 ≤ v → v < i → v ≠ q → 0 ≤ rd d v + lap es t v)) → Ep (fun k => spec_l05Reduce.l1 k d q s x (n : Int) (i : Int) (n : Int) es) Q := by
  have hn := g.n6
  intro dd
  induction dd with
  | zero =>
    intro i t s x hi ho hs hx hg
    obtain rfl : i = n := by omega
    refine Ep.up ?_
    simp only [spec_l05Reduce.l1]
    exact Ep.neg (by omega) (hk t s x ho hs hx hg)
  | succ dd ih =>
    intro i t s x hi ho hs hx hg
    have hbd := ho.bds g hd hb
    have hxl := hx.1
    have hsl := hs.1
    have hxi : rd x (i : Int) = rd d (i : Int) + lap es t (i : Int) := hx.2 i (by omega) (by omega)
    have hsi : rd s (i : Int) = - t (i : Int) := hs.2 i (by omega) (by omega)
    have hti := hbd.1 i (by omega) (by omega)
    refine Ep.up ?_
    simp only [spec_l05Reduce.l1]
    rw [wrap_succ (by omega)]
    refine Ep.pos (by omega) (Ep.ite (fun h => ?_) (fun h => Ep.pos (by omega) (Ep.pos (by omega) (Ep.ite (fun h2 => ?_) (fun h2 => ?_)))))
    · refine ih (i + 1) t s x (by omega) ho hs hx ?_
      rcases hg with hg | ⟨hg, hg2⟩
      · exact .inl hg
      · refine .inr ⟨hg, fun v v0 v1 v2 => ?_⟩
        by_cases e : v = i
        · exact absurd (e.trans h) v2
        · exact hg2 v v0 (by omega) v2
    · refine Ep.pos (by omega) (Ep.bind0 rfl ?_)
      rw [hsi, wrap_id (by omega) (by omega)]
      have ho' := ho.step (v := (i : Int)) (by omega) (by omega) h (by omega)
      have hbd' := ho'.bds g hd hb
      have hs' : Rep n (s.set (i : Int).toNat (- t (i : Int) - 1)) (fun w => - (t w + one (i : Int) 1 w)) := (hs.set (v := (i : Int)) (by omega) (by omega) _).congr fun w _ _ => by
        unfold one
        by_cases e : w = i
        · rw [if_pos e, if_pos e, e]; omega
        · rw [if_neg e, if_neg e]; omega
      refine Ep.bind (specFire n hn es g.hes g.hel d _ hd hs'.1 (B := 1000) (K := 100000) ⟨by omega, by omega⟩ hb (hs'.bd fun w w0 w1 => by have := hbd'.1 w w0 w1; omega) (by omega)) ?_
      rintro r ⟨hr, _⟩
      refine ih (i + 1) _ _ r (by omega) ho' hs' (((hr.congr g.hes hs'.2).rep hd).congr fun w w0 w1 => ?_) (.inl ?_)
      · rw [lap_neg es (fun w => t w + one (i : Int) 1 w)]; omega
      · rw [sum_grow (by omega) (by omega)]
        rcases hg with hg | ⟨hg, _⟩
        · omega
        · rw [hg]; omega
    · refine ih (i + 1) t s x (by omega) ho hs hx ?_
      rcases hg with hg | ⟨hg, hg2⟩
      · exact .inl hg
      · refine .inr ⟨hg, fun v v0 v1 v2 => ?_⟩
        by_cases e : v = i
        · rw [e]; omega
        · exact hg2 v v0 (by omega) v2
/-- Debts are paid: what is left to do. -/
theorem specRed_l0 {n : Nat} {es : List E} {q : Int} (g : Gr n es q) {d : List Int} (hd : d.length = n) (hb : Bd d 1000) {Q : List Int × List Int → Prop}
    (hk : ∀ (t : Int → Int) (s x : List Int), Owed n es q d t → Rep n s (fun w => - t w) → Rep n x (fun w => rd d w + lap es t w) → (∀ v : Int, 0 ≤ v → v < n → v ≠ q → 0 ≤ rd d v + lap es t v) → Ep (fun k => spec_l05Reduce.l2 k d q s x (n : Int) es) Q) :
    ∀ (k : Nat) (t : Int → Int) (s x : List Int), 218592 < sumN n (fun i => t (i : Int)) + k → Owed n es q d t → Rep n s (fun w => - t w) → Rep n x (fun w => rd d w + lap es t w) → Ep (fun f => spec_l05Reduce.l0 f d q s x (n : Int) es) Q := by
  have hn := g.n6
  intro k
  induction k with
  | zero =>
    intro t s x hs ho _ _
    have := ho.bds g hd hb
    omega
  | succ k ih =>
    intro t s x hm ho hs hx
    have hxl := hx.1
    refine Ep.up ?_
    simp only [spec_l05Reduce.l0]
    refine Ep.bind (specDebt x q (by omega)) ?_
    rintro _ rfl
    refine Ep.ite (fun h => ?_) (fun h => ?_)
    · have h' : 0 ≤ debtF q x x.length 0 := by simpa using h
      have hp := debt_pos (q := q) hxl (by omega)
      rw [hxl]
      rw [hxl] at hp
      generalize debtF q x n 0 = u at hp
      have hxu : rd x u = rd d u + lap es t u := hx.2 u hp.1 hp.2.1
      refine specRed_l1 g hd hb t (fun t' s' x' ho' hs' hx' hg => ih t' s' x' ?_ ho' hs' hx') n 0 t s x (by omega) ho hs hx (.inr ⟨rfl, fun v v0 v1 => by omega⟩)
      rcases hg with hg | ⟨rfl, hg⟩
      · omega
      · have := hg u hp.1 hp.2.1 hp.2.2.1
        omega
    · have h' : ¬ 0 ≤ debtF q x x.length 0 := by simpa using h
      refine hk t s x ho hs hx fun v v0 v1 v2 => ?_
      have := debt_neg (q := q) hxl (by omega) v v0 v1 v2
      have hxv : rd x v = rd d v + lap es t v := hx.2 v v0 v1
      omega
structure Sec (n : Nat) (es : List E) (q : Int) (d : List Int) (t u : Int → Int) : Prop where
  ow : Owed n es q d t
  sets : Sets n es q (fun v => rd d v + lap es t v) u
theorem Sec.bds {n : Nat} {es : List E} {q : Int} (g : Gr n es q) {d : List Int} (hd : d.length = n) (hb : Bd d 1000) {t u : Int → Int} (h : Sec n es q d t u) :
    (∀ v : Int, 0 ≤ v → v < n → 0 ≤ u v ∧ u v ≤ 15840000) ∧ sumN n (fun i => u (i : Int)) ≤ 95040000 ∧ (∀ v : Int, 0 ≤ v → v < n → -15880000 ≤ u v - t v ∧ u v - t v ≤ 15880000) ∧ ∀ w : Int, 0 ≤ w → w < n → -200000000 ≤ rd d w + lap es t w - lap es u w ∧ rd d w + lap es t w - lap es u w ≤ 200000000 := by
  have h1 := h.ow.bds g hd hb
  have h2 := h.sets.small g.n6 g.hes g.hj g.hq (c := 440000) (by omega) (fun v h0 h2 _ => (h1.2.2.2 v h0 h2).2)
  refine ⟨fun v h0 h3 => by have := h2.1 v h0 h3; omega, by omega, fun v h0 h3 => by have := h2.1 v h0 h3; have := h1.1 v h0 h3; omega, fun w h0 h3 => ?_⟩
  have h4 := lap_bd g.hes g.hel (s := u) (L := 0) (S := 15840000) (by omega) (fun v h0 h2' => by have := h2.1 v h0 h2'; omega) w
  have := h1.2.2.2 w h0 h3
  omega
theorem Sec.done {n : Nat} {es : List E} {q : Int} (g : Gr n es q) {d : List Int} {t u : Int → Int} (h : Sec n es q d t u) {s x : List Int} (hs : Rep n s (fun w => u w - t w)) (hx : Rep n x (fun w => rd d w + lap es t w - lap es u w)) {b : List Int} (hbu : Burn n es (rd x) q b) (hl : b.length = n) : Reduced n es q d (x, s) := by
  refine ⟨hx.1, hs.1, hbu.red g.hes g.hq hl (fun v v0 v1 v2 => ?_), ?_, fun v v0 v1 => ?_⟩
  · rw [hx.2 v v0 v1]
    exact h.sets.keeps v v0 v1 v2
  · have e : rd s q = u q - t q := hs.2 q g.hq.1 g.hq.2
    show rd s q = 0
    rw [e, h.sets.at_q, h.ow.nonneg.2]
    rfl
  · have e : rd x v = rd d v + lap es t v - lap es u v := hx.2 v v0 v1
    show rd x v = rd d v - lap es (rd s) v
    rw [e, lap_congr g.hes (t := fun w => u w - t w) hs.2, lap_sub]
    omega
/-- What is not reached by the fire, among the first i. -/
def unbTo (b : List Int) (i : Int) (v : Int) : Int := if v < i then unb b v else 0
theorem unbTo_succ {b : List Int} {i : Int} (hm : i ∉ b) (v : Int) : unbTo b (i + 1) v = unbTo b i v + one i 1 v := by
  unfold unbTo one
  by_cases c : v = i
  · rw [c, if_pos (by omega), if_neg (by omega), if_pos rfl, unb_not hm]; rfl
  · rw [if_neg c]
    by_cases c2 : v < i
    · rw [if_pos (by omega), if_pos c2]; omega
    · rw [if_neg (by omega), if_neg c2]; rfl
theorem unbTo_stay {b : List Int} {i : Int} (hm : i ∈ b) (v : Int) : unbTo b (i + 1) v = unbTo b i v := by
  unfold unbTo
  by_cases c : v = i
  · rw [c, if_pos (by omega), if_neg (by omega), unb_mem hm]
  · by_cases c2 : v < i
    · rw [if_pos (by omega), if_pos c2]
    · rw [if_neg (by omega), if_neg c2]
theorem unbTo_01 (b : List Int) (i v : Int) : 0 ≤ unbTo b i v ∧ unbTo b i v ≤ 1 := by
  unfold unbTo
  split
  · by_cases h : v ∈ b
    · rw [unb_mem h]; omega
    · rw [unb_not h]; omega
  · omega
theorem specRed_l3 {n : Nat} {es : List E} {q : Int} (g : Gr n es q) {d : List Int} (hd : d.length = n) (hb : Bd d 1000) {t u : Int → Int} (h : Sec n es q d t u) (b : List Int) (hbl : b.length ≤ 6) {Q : List Int × List Int → Prop}
    (hk : ∀ s x : List Int, Rep n s (fun w => u w + unb b w - t w) → Rep n x (fun w => rd d w + lap es t w - lap es (fun w => u w + unb b w) w) → Ep (fun k => spec_l05Reduce.l2 k d q s x (n : Int) es) Q) :
    ∀ (dd i : Nat) (s : List Int), i + dd = n → Rep n s (fun w => u w + unbTo b i w - t w) → Ep (fun k => spec_l05Reduce.l3 k d q s b (i : Int) (n : Int) es) Q := by
  have hn := g.n6
  have hbd := h.bds g hd hb
  intro dd
  induction dd with
  | zero =>
    intro i s hi hs
    obtain rfl : i = n := by omega
    have hs' : Rep i s (fun w => u w + unb b w - t w) := hs.congr fun w _ w1 => by unfold unbTo; rw [if_pos w1]
    refine Ep.up ?_
    simp only [spec_l05Reduce.l3]
    refine Ep.neg (by omega) ?_
    refine Ep.bind (specFire i hn es g.hes g.hel d s hd hs'.1 (B := 1000) (K := 20000000) ⟨by omega, by omega⟩ hb (hs.bd fun w w0 w1 => by
      have := hbd.2.2.1 w w0 w1
      have := unbTo_01 b i w
      omega) (by omega)) ?_
    rintro r ⟨hr, _⟩
    refine hk s r hs' (((hr.congr g.hes hs'.2).rep hd).congr fun w w0 w1 => ?_)
    have e : lap es (fun w => u w + unb b w - t w) w = lap es (fun w => u w + unb b w) w - lap es t w := lap_sub es (fun w => u w + unb b w) t w
    rw [e]
    omega
  | succ dd ih =>
    intro i s hi hs
    have hsl := hs.1
    have hsi : rd s (i : Int) = u i + unbTo b i i - t i := hs.2 i (by omega) (by omega)
    have h1 := hbd.2.2.1 i (by omega) (by omega)
    have h2 := unbTo_01 b i i
    refine Ep.up ?_
    simp only [spec_l05Reduce.l3]
    rw [wrap_succ (by omega)]
    refine Ep.pos (by omega) (Ep.bind (specHas b i (by omega)) ?_)
    rintro _ rfl
    refine Ep.ite (fun hm => ?_) (fun hm => Ep.pos (by omega) (Ep.pos (by omega) ?_))
    · have hm' : (i : Int) ∈ b := by simpa using hm
      refine ih (i + 1) s (by omega) (hs.congr fun w _ _ => ?_)
      rw [Int.natCast_succ, unbTo_stay hm']
    · have hm' : (i : Int) ∉ b := by simpa using hm
      rw [hsi, wrap_id (by omega) (by omega)]
      refine ih (i + 1) _ (by omega) ((hs.set (v := (i : Int)) (by omega) (by omega) _).congr fun w _ _ => ?_)
      rw [Int.natCast_succ, unbTo_succ hm']
      unfold one
      by_cases e : w = i
      · rw [if_pos e, if_pos e, e]; omega
      · rw [if_neg e, if_neg e]; omega
theorem specRed_l2 {n : Nat} {es : List E} {q : Int} (g : Gr n es q) {d : List Int} (hd : d.length = n) (hb : Bd d 1000) {t : Int → Int} : ∀ (k : Nat) (u : Int → Int) (s x : List Int), 95040000 < sumN n (fun i => u (i : Int)) + k → Sec n es q d t u → Rep n s (fun w => u w - t w) → Rep n x (fun w => rd d w + lap es t w - lap es u w) →
    Ep (fun f => spec_l05Reduce.l2 f d q s x (n : Int) es) (Reduced n es q d) := by
  have hn := g.n6
  intro k
  induction k with
  | zero =>
    intro u s x hm h _ _
    have := h.bds g hd hb
    omega
  | succ k ih =>
    intro u s x hm h hs hx
    have hxl := hx.1
    have hbo := burnF_ok (es := es) (d := rd x) g.hq
    have hlen := hbo.1.len g.hq
    refine Ep.up ?_
    simp only [spec_l05Reduce.l2]
    refine Ep.bind (specBurn g x hxl) ?_
    rintro b rfl
    generalize burnF n es (rd x) q = b at hbo hlen ⊢
    refine Ep.ite (fun h2 => Ep.now ?_) (fun h2 => ?_)
    · exact h.done g hs hx hbo.1 (by omega)
    · have hex := unburnt_some (n := n) (b := b) (by omega)
      have hst : Sec n es q d t (fun w => u w + unb b w) := ⟨h.ow, h.sets.step g.hes g.hq hx.2 hbo.1 hbo.2⟩
      refine specRed_l3 g hd hb h b (by omega) (fun s' x' hs' hx' => ih (fun w => u w + unb b w) s' x' ?_ hst hs' hx') n 0 s (by omega) (hs.congr fun w w0 _ => ?_)
      · have h9 : sumN n (fun i => u (i : Int)) + 1 ≤ sumN n (fun i => u (i : Int) + unb b (i : Int)) := sum_unb (u := u) hex
        omega
      · unfold unbTo
        rw [if_neg (by omega)]
        omega
theorem specReduce' {n : Nat} {es : List E} {q : Int} (g : Gr n es q) {d : List Int} (hd : d.length = n) (hb : Bd d 1000) : Ep (fun k => spec_l05Reduce.f k (n : Int) es d q) (Reduced n es q d) := by
  have hn := g.n6
  have hz : ∀ w, lap es (fun _ => 0) w = 0 := fun w => lap_const (c := 0) (fun _ _ => ⟨rfl, rfl⟩) w
  simp only [spec_l05Reduce.f]
  refine Ep.pos (by omega) (Ep.pos (by omega) (Ep.bind0 rfl (Ep.pos (by simp; omega) ?_)))
  refine specRed_l0 g hd hb (fun t s x ho hs hx hp => ?_) 218593 (fun _ => 0) _ d ?_ .zero (Rep.zero n) ((Rep.self hd).congr fun w _ _ => by rw [hz]; omega)
  · refine specRed_l2 g hd hb 95040001 (fun _ => 0) s x ?_ ⟨ho, Sets.zero hp⟩ (hs.congr fun w _ _ => by omega) (hx.congr fun w _ _ => by rw [hz]; omega)
    simp only [sumN_zero]; omega
  · simp only [sumN_zero]; omega
theorem reduceS_ok {n : Nat} {es : List E} {q : Int} (g : Gr n es q) {d : List Int} (hd : d.length = n) (hb : Bd d 1000) : Reduced n es q d (reduceS n es q d) := by
  obtain ⟨r, hr, _⟩ := specReduce' g hd hb
  rw [← hr.eq g.hes g.hq]
  exact hr
theorem implRed_l2 {n : Nat} {es : List E} {q : Int} (g : Gr n es q) {d : List Int} (hd : d.length = n) (hb : Bd d 1000) {t u : Int → Int} (h : Sec n es q d t u) (b : List Int) (hbl : b.length ≤ 6) {Q : List Int × List Int → Prop}
    (hk : ∀ s x : List Int, Rep n s (fun w => u w + unb b w - t w) → Rep n x (fun w => rd d w + lap es t w - lap es (fun w => u w + unb b w) w) → Ep (fun k => impl_reduce.l1 k q x s (n : Int) es) Q) :
    ∀ (dd i : Nat) (s x : List Int), i + dd = n → Rep n s (fun w => u w + unbTo b i w - t w) → Rep n x (fun w => rd d w + lap es t w - lap es (fun w => u w + unbTo b i w) w) → Ep (fun k => impl_reduce.l2 k q x s b (n : Int) (i : Int) (n : Int) es) Q := by
  have hn := g.n6
  have hbd := h.bds g hd hb
  intro dd
  induction dd with
  | zero =>
    intro i s x hi hs hx
    obtain rfl : i = n := by omega
    refine Ep.up ?_
    simp only [impl_reduce.l2]
    refine Ep.neg (by omega) (hk s x (hs.congr fun w _ w1 => by unfold unbTo; rw [if_pos w1]) (hx.congr fun w _ _ => ?_))
    rw [lap_congr g.hes (s := fun w => u w + unbTo b i w) (t := fun w => u w + unb b w) (fun v _ v1 => by unfold unbTo; rw [if_pos v1])]
  | succ dd ih =>
    intro i s x hi hs hx
    have hsl := hs.1
    have hxl := hx.1
    have hsi : rd s (i : Int) = u i + unbTo b i i - t i := hs.2 i (by omega) (by omega)
    have h1 := hbd.2.2.1 i (by omega) (by omega)
    have h2 := unbTo_01 b i i
    refine Ep.up ?_
    simp only [impl_reduce.l2]
    rw [wrap_succ (by omega)]
    refine Ep.pos (by omega) (Ep.bind (contains_ok b i (by omega)) ?_)
    rintro _ rfl
    refine Ep.ite (fun hm => ?_) (fun hm => ?_)
    · have hm' : (i : Int) ∈ b := by simpa using hm
      have e : unbTo b ((i : Int) + 1) = unbTo b i := funext fun w => unbTo_stay hm' w
      refine ih (i + 1) s x (by omega) (hs.congr fun w _ _ => ?_) (hx.congr fun w _ _ => ?_)
      · rw [Int.natCast_succ, e]
      · simp only [Int.natCast_succ, e]
    · have hm' : (i : Int) ∉ b := by simpa using hm
      have hbx : Bd x 1000000000 := hx.bd fun w w0 w1 => by
        have h3 := hbd.2.2.2 w w0 w1
        have h4 := lap_bd g.hes g.hel (s := unbTo b i) (L := 0) (S := 1) (by omega) (fun v _ _ => by have := unbTo_01 b i v; omega) w
        rw [lap_add]
        omega
      refine Ep.bind (implFire n es g.hes g.hel x i 1 hxl ⟨by omega, by omega⟩ (B := 1000000000) (K := 1) ⟨by omega, by omega⟩ hbx (by omega) (by omega)) ?_
      rintro r ⟨hr, _⟩
      refine Ep.pos (by omega) (Ep.pos (by omega) ?_)
      rw [hsi, wrap_id (by omega) (by omega)]
      refine ih (i + 1) _ r (by omega) ((hs.set (v := (i : Int)) (by omega) (by omega) _).congr fun w _ _ => ?_) ((hr.rep hxl).congr fun w w0 w1 => ?_)
      · rw [Int.natCast_succ, unbTo_succ hm']
        unfold one
        by_cases e : w = i
        · rw [if_pos e, if_pos e, e]; omega
        · rw [if_neg e, if_neg e]; omega
      · have hxw : rd x w = rd d w + lap es t w - lap es (fun w => u w + unbTo b i w) w := hx.2 w w0 w1
        have e : (fun w => u w + unbTo b ((i + 1 : Nat) : Int) w) = fun w => (fun w => u w + unbTo b i w) w + one (i : Int) 1 w := by
          funext w
          show u w + unbTo b ((i + 1 : Nat) : Int) w = u w + unbTo b i w + one (i : Int) 1 w
          rw [Int.natCast_succ, unbTo_succ hm']
          omega
        rw [e, lap_add, hxw]
        omega
theorem implRed_l1 {n : Nat} {es : List E} {q : Int} (g : Gr n es q) {d : List Int} (hd : d.length = n) (hb : Bd d 1000) {t : Int → Int} : ∀ (k : Nat) (u : Int → Int) (s x : List Int), 95040000 < sumN n (fun i => u (i : Int)) + k → Sec n es q d t u → Rep n s (fun w => u w - t w) → Rep n x (fun w => rd d w + lap es t w - lap es u w) →
    Ep (fun f => impl_reduce.l1 f q x s (n : Int) es) (Reduced n es q d) := by
  have hn := g.n6
  intro k
  induction k with
  | zero =>
    intro u s x hm h _ _
    have := h.bds g hd hb
    omega
  | succ k ih =>
    intro u s x hm h hs hx
    have hxl := hx.1
    have hsl := hs.1
    have hbo := burnF_ok (es := es) (d := rd x) g.hq
    have hlen := hbo.1.len g.hq
    refine Ep.up ?_
    simp only [impl_reduce.l1]
    refine Ep.bind (implBurn g x hxl) ?_
    rintro b rfl
    generalize burnF n es (rd x) q = b at hbo hlen ⊢
    refine Ep.ite (fun h2 => Ep.now ?_) (fun h2 => ?_)
    · exact h.done g hs hx hbo.1 (by omega)
    · have hex := unburnt_some (n := n) (b := b) (by omega)
      have hst : Sec n es q d t (fun w => u w + unb b w) := ⟨h.ow, h.sets.step g.hes g.hq hx.2 hbo.1 hbo.2⟩
      have e : ∀ w : Int, 0 ≤ w → u w + unbTo b ((0 : Nat) : Int) w = u w := fun w w0 => by unfold unbTo; rw [if_neg (by omega)]; omega
      rw [hsl]
      refine implRed_l2 g hd hb h b (by omega) (fun s' x' hs' hx' => ih (fun w => u w + unb b w) s' x' ?_ hst hs' hx') n 0 s x (by omega) (hs.congr fun w w0 _ => ?_) (hx.congr fun w w0 w1 => ?_)
      · have h9 : sumN n (fun i => u (i : Int)) + 1 ≤ sumN n (fun i => u (i : Int) + unb b (i : Int)) := sum_unb (u := u) hex
        omega
      · rw [e w w0]
      · rw [lap_congr g.hes (s := u) (t := fun w => u w + unbTo b ((0 : Nat) : Int) w) (fun v v0 _ => (e v v0).symm)]
theorem implRed_l0 {n : Nat} {es : List E} {q : Int} (g : Gr n es q) {d : List Int} (hd : d.length = n) (hb : Bd d 1000) : ∀ (k : Nat) (t : Int → Int) (s x : List Int), 218592 < sumN n (fun i => t (i : Int)) + k → Owed n es q d t → Rep n s (fun w => - t w) → Rep n x (fun w => rd d w + lap es t w) →
    Ep (fun f => impl_reduce.l0 f q x s (debtF q x x.length 0) (n : Int) es) (Reduced n es q d) := by
  have hn := g.n6
  have hel := g.hel
  have hz : ∀ w, lap es (fun _ => 0) w = 0 := fun w => lap_const (c := 0) (fun _ _ => ⟨rfl, rfl⟩) w
  intro k
  induction k with
  | zero =>
    intro t s x hm ho _ _
    have := ho.bds g hd hb
    omega
  | succ k ih =>
    intro t s x hm ho hs hx
    have hxl := hx.1
    have hsl := hs.1
    have hbd := ho.bds g hd hb
    refine Ep.up ?_
    simp only [impl_reduce.l0]
    refine Ep.ite (fun h => ?_) (fun h => ?_)
    · have hp := debt_pos (q := q) hxl (by omega)
      generalize debtF q x x.length 0 = v at hp ⊢
      obtain ⟨h0, h1, h2, h3⟩ := hp
      have hvp := val_pos g.hj g.hq ⟨h0, h1⟩ h2
      have hvl := val_le es v
      have hxv : rd x v = rd d v + lap es t v := hx.2 v h0 h1
      have hsv : rd s v = - t v := hs.2 v h0 h1
      have hxb := hbd.2.2.2 v h0 h1
      have htv := hbd.1 v h0 h1
      have hdv := Int.ediv_mul_le (val es v - 1 - rd x v) (b := val es v) (by omega)
      have hd0 : 1 ≤ (val es v - 1 - rd x v) / val es v := (Int.le_ediv_iff_mul_le hvp).2 (by omega)
      have hdm : (val es v - 1 - rd x v) / val es v ≤ val es v - 1 - rd x v := Int.ediv_le_self _ (by omega)
      have htd : Int.tdiv (val es v - 1 - rd x v) (val es v) = (val es v - 1 - rd x v) / val es v := Int.tdiv_eq_ediv_of_nonneg (by omega)
      have hbx : Bd x 1000000 := hx.bd fun w w0 w1 => by
        have := hbd.2.2.2 w w0 w1
        omega
      refine Ep.bind (implValence n es v (by omega)) ?_
      rintro _ rfl
      rw [valG_in ⟨h0, h1⟩]
      refine Ep.pos (by omega) (Ep.pos (by omega) (Ep.neg (by omega) ?_))
      rw [wrap_id (x := val es v - 1) (by omega) (by omega), wrap_id (x := val es v - 1 - rd x v) (by omega) (by omega), htd, wrap_id (x := (val es v - 1 - rd x v) / val es v) (by omega) (by omega)]
      generalize (val es v - 1 - rd x v) / val es v = m at hdv hd0 hdm ⊢
      obtain ⟨m, rfl⟩ := Int.eq_ofNat_of_zero_le (a := m) (by omega)
      rw [wrap_id (x := -(m : Int)) (by omega) (by omega)]
      refine Ep.bind (implFire n es g.hes g.hel x v (-(m : Int)) hxl ⟨h0, h1⟩ (B := 1000000) (K := 1000000) ⟨by omega, by omega⟩ hbx (by omega) (by omega)) ?_
      rintro r ⟨hr, _⟩
      have hr' := hr.rep hxl
      have hrl := hr'.1
      have ho' : Owed n es q d (fun w => t w + one v m w) := Legal.many g.hes ho h0 h1 h2 m (by unfold dual; omega)
      refine Ep.pos (by omega) ?_
      refine Ep.bind (implDebt r q (by omega)) ?_
      rintro _ rfl
      rw [hsv, wrap_id (x := - t v - (m : Int)) (by omega) (by omega)]
      refine ih (fun w => t w + one v m w) _ r ?_ ho' ((hs.set h0 h1 _).congr fun w _ _ => ?_) (hr'.congr fun w w0 w1 => ?_)
      · rw [sum_grow h0 h1]
        omega
      · unfold one
        by_cases e : w = v
        · rw [if_pos e, if_pos e, e]; omega
        · rw [if_neg e, if_neg e]; omega
      · have h5 : rd x w = rd d w + lap es t w := hx.2 w w0 w1
        have e : one v (-(m : Int)) = fun w => - one v m w := by
          funext w
          unfold one
          split <;> omega
        rw [h5, lap_add, e, lap_neg]
        omega
    · have hp := debt_neg (q := q) hxl (by omega)
      refine implRed_l1 g hd hb 95040001 (fun _ => 0) s x ?_ ⟨ho, Sets.zero fun v v0 v1 v2 => ?_⟩ (hs.congr fun w _ _ => by omega) (hx.congr fun w _ _ => by rw [hz]; omega)
      · simp only [sumN_zero]; omega
      · have h3 := hp v v0 v1 v2
        have h4 : rd x v = rd d v + lap es t v := hx.2 v v0 v1
        omega
theorem implReduce {n : Nat} {es : List E} {q : Int} (g : Gr n es q) {d : List Int} (hd : d.length = n) (hb : Bd d 1000) : Ep (fun k => impl_reduce.f k (n : Int) es d q) (· = reduceS n es q d) := by
  have hn := g.n6
  have hz : ∀ w, lap es (fun _ => 0) w = 0 := fun w => lap_const (c := 0) (fun _ _ => ⟨rfl, rfl⟩) w
  simp only [impl_reduce.f]
  refine Ep.bind0 (copy_eq d (by omega)) (Ep.pos (by omega) (Ep.pos (by omega) ?_))
  refine Ep.bind (implDebt d q (by omega)) ?_
  rintro _ rfl
  refine (implRed_l0 g hd hb 218593 (fun _ => 0) _ d ?_ .zero (Rep.zero n) ((Rep.self hd).congr fun w _ _ => by rw [hz]; omega)).mono fun r hr => hr.eq g.hes g.hq
  simp only [sumN_zero]; omega
end Go.Proofs.Ytgobnfeahffnaaa.Cf
end

section
namespace Go.Proofs.Ytgobnfeahffnaaa.P
open Go.RowKit Go.Proofs.YtgobnfeahffnaaaW.PrintWords Go.Proofs.YtgobnfeahffnaaaW.PrintLast Go.Proofs.YtgobnfeahffnaaaW.PrintMore
attribute [local go_sem] max2_int min2_int max_two min_two max_three min_three max_four min_four
set_option linter.unusedVariables false
set_option linter.unusedSimpArgs false
def spec_DegreeOf.l0 : Nat → Int → List Int → Int → Int → Option (Int)
 | 0, _, _, _, _ => none
 | k + 1, x3, x6, x7, x8 => if x8 < x7 then (if 0 ≤ x8 then (if x8 < (x6.length : Int) then (spec_DegreeOf.l0 k (wrap64 (x3 + (rd x6 x8))) x6 x7 (wrap64 (x8 + 1))) else (none)) else (none)) else (some x3)
def spec_DegreeOf.f (k : Nat) (l0 : List Int) : Option (Int) := spec_DegreeOf.l0 k 0 l0 (l0.length : Int) 0
theorem spec_DegreeOf.mono_l : ∀ k, (∀ y0 y1 y2 y3, LeO (spec_DegreeOf.l0 k y0 y1 y2 y3) (spec_DegreeOf.l0 (k + 1) y0 y1 y2 y3))
 | 0 => fun _ _ _ _ r h => by simp [spec_DegreeOf.l0] at h
 | k + 1 => by
  have ih0 := spec_DegreeOf.mono_l k
  ·intro y0 y1 y2 y3
   unfold spec_DegreeOf.l0
   exact zm0
theorem spec_DegreeOf.mono : ∀ a0 k, LeO (spec_DegreeOf.f k a0) (spec_DegreeOf.f (k + 1) a0) := by
 intro a0 k; have ih0 := spec_DegreeOf.mono_l k; unfold spec_DegreeOf.f; exact zm0
end Go.Proofs.Ytgobnfeahffnaaa.P
end

section
namespace Go.Proofs.Ytgobnfeahffnaaa.Cf
set_option linter.unusedVariables false
set_option linter.unusedSimpArgs false
open Go.RowKit Go.Proofs.YtgobnfeahffnaaaW.PrintWords Go.Proofs.Ytgobnfeahffnaaa.P
/-- The numbers are no greater than a thousand million. -/
def Mod (l : List Int) : Prop := ∀ x ∈ l, -1000000000 ≤ x ∧ x ≤ 1000000000
theorem implSum_l0 (l : List Int) (hl : l.length ≤ 1048576) (hm : Mod l) : ∀ (d i : Nat) (a : Int), i + d = l.length → -(1000000000 * (i : Int)) ≤ a → a ≤ 1000000000 * (i : Int) → Ep (fun k => impl_sumOf.l0 k a l (l.length : Int) (i : Int)) (· = a + (l.drop i).sum) := by
  intro d
  induction d with
  | zero =>
    intro i a hi h0 h1
    refine Ep.up ?_
    simp only [impl_sumOf.l0]
    refine Ep.neg (by omega) (Ep.now ?_)
    rw [List.drop_of_length_le (by omega)]
    simp
  | succ d ih =>
    intro i a hi h0 h1
    have hlt : i < l.length := by omega
    have hx := hm _ (List.getElem_mem hlt)
    refine Ep.up ?_
    simp only [impl_sumOf.l0]
    refine Ep.pos (by omega) (Ep.pos (by omega) (Ep.pos (by omega) ?_))
    rw [rd_get hlt, wrap_succ (by omega), wrap_id (by omega) (by omega), List.drop_eq_getElem_cons hlt]
    refine (ih (i + 1) _ (by omega) (by omega) (by omega)).mono ?_
    rintro _ rfl
    rw [List.sum_cons]
    omega
theorem implSum (l : List Int) (hl : l.length ≤ 1048576) (hm : Mod l) : Ep (fun k => impl_sumOf.f k l) (· = l.sum) := by
  simp only [impl_sumOf.f]
  refine (implSum_l0 l hl hm l.length 0 0 (by omega) (by omega) (by omega)).mono ?_
  rintro _ rfl
  simp
end Go.Proofs.Ytgobnfeahffnaaa.Cf
end

section
namespace Go.Proofs.Ytgobnfeahffnaaa.Cf
set_option linter.unusedVariables false
set_option linter.unusedSimpArgs false
open Go.RowKit Go.Proofs.YtgobnfeahffnaaaW.PrintWords
theorem sum_bd {n : Nat} (hn : n ≤ 6) {d : List Int} (hd : d.length = n) {B : Int} (hB : 0 ≤ B) (hb : Bd d B) : -(6 * B) ≤ d.sum ∧ d.sum ≤ 6 * B := by
  rw [sum_rd n d hd]
  have h1 := sumN_le_const (n := n) (f := fun i => rd d (i : Int)) (c := B) (fun i hi => (hb i (by omega) (by omega)).2)
  have h2 := sumN_le_const (n := n) (f := fun i => - rd d (i : Int)) (c := B) (fun i hi => by have := (hb i (by omega) (by omega)).1; omega)
  have h3 : sumN n (fun i => - rd d (i : Int)) + sumN n (fun i => rd d (i : Int)) = 0 := by
    rw [← sumN_add]
    have := sumN_zero n
    rw [← this]
    apply sumN_congr
    intro i _
    omega
  have h4 : (n : Int) * B ≤ 6 * B := Int.mul_le_mul_of_nonneg_right (by omega) hB
  omega
theorem reduceS_bd {n : Nat} {es : List E} {q : Int} (g : Gr n es q) {d : List Int} (hd : d.length = n) (hb : Bd d 1000) : (reduceS n es q d).1.length = n ∧ Bd (reduceS n es q d).1 10000 := by
  have h := reduceS_ok g hd hb
  have h1 := (h.bd g.n6 g.hes g.hel g.hq hd).2
  have h2 := sum_bd g.n6 hd (by omega) hb
  refine ⟨h.1, fun w w0 w1 => ?_⟩
  have h3 := h1 w w0 (by have := h.1; omega)
  by_cases e : w = q
  · have := h3.2 e; omega
  · have := h3.1 e; omega
theorem dOk_all {n : Int} {es : List E} {d : List Int} (h : dOk n es d = true) : ∃ m : Nat, n = m ∧ (∀ q : Int, 0 ≤ q → q < n → Gr m es q) ∧ 1 ≤ m ∧ m ≤ 6 ∧ d.length = m ∧ Bd d 60 ∧ Mod d := by
  obtain ⟨h1, h2, h3⟩ := dOk_iff.1 h
  obtain ⟨m, rfl⟩ := Int.eq_ofNat_of_zero_le (a := n) (by omega)
  have hg := h1.1
  unfold EsOk at hg
  exact ⟨m, rfl, fun q q0 q1 => Gr.of h1 ⟨q0, q1⟩, by omega, by omega, by omega, Bd.of60 h3, fun x hx => by have := h3 x hx; omega⟩
end Go.Proofs.Ytgobnfeahffnaaa.Cf
end

section
namespace Go.Proofs.Ytgobnfeahffnaaa.Cf
set_option linter.unusedVariables false
set_option linter.unusedSimpArgs false
open Go.RowKit Go.Proofs.YtgobnfeahffnaaaW.PrintWords Go.Proofs.Ytgobnfeahffnaaa.P
def burntL (es : List E) (b : List Int) : List Int := es.map fun e => if idxF e.f0 b 0 < idxF e.f1 b 0 then 0 else 1
theorem burntL_take {es : List E} {b : List Int} {i : Nat} (h : i < es.length) : (burntL es b).take (i + 1) = (burntL es b).take i ++ [if idxF es[i].f0 b 0 < idxF es[i].f1 b 0 then 0 else 1] := by
  rw [List.take_succ_eq_append_getElem (by simpa [burntL] using h)]
  simp [burntL]
theorem implBurnt_l0 (es : List E) (hel : es.length ≤ 1048576) (b : List Int) (hb : b.length ≤ 1048576) : ∀ (d i : Nat), i + d = es.length → Ep (fun k => impl_burnt.l0 k b ((burntL es b).take i) es (es.length : Int) (i : Int)) (· = burntL es b) := by
  intro d
  have hL : (burntL es b).length = es.length := by simp [burntL]
  induction d with
  | zero =>
    intro i hi
    refine Ep.up ?_
    simp only [impl_burnt.l0]
    refine Ep.neg (by omega) (Ep.now ?_)
    rw [List.take_of_length_le (by omega)]
  | succ d ih =>
    intro i hi
    have hlt : i < es.length := by omega
    have hlen : ((burntL es b).take i).length < 17592186044416 := by rw [List.length_take]; omega
    have ih' := ih (i + 1) (by omega)
    rw [burntL_take hlt] at ih'
    refine Ep.up ?_
    simp only [impl_burnt.l0]
    rw [wrap_succ (by omega)]
    refine Ep.pos (by omega) (Ep.pos (by omega) (Ep.pos (by omega) ?_))
    rw [rdE_get hlt]
    refine Ep.bind (index_ok b _ hb) ?_
    rintro _ rfl
    refine Ep.bind (index_ok b _ hb) ?_
    rintro _ rfl
    refine Ep.ite (fun h => Ep.pos hlen ?_) (fun h => Ep.pos hlen ?_)
    · rw [if_pos h] at ih'
      exact ih'
    · rw [if_neg h] at ih'
      exact ih'
theorem implBurnt (n : Int) (es : List E) (hel : es.length ≤ 1048576) (b : List Int) (hb : b.length ≤ 1048576) : Ep (fun k => impl_burnt.f k n es b) (· = burntL es b) := by
  simp only [impl_burnt.f]
  have := implBurnt_l0 es hel b hb es.length 0 (by omega)
  simpa using this
/-- Winnable. -/
noncomputable def winB (n : Nat) (es : List E) (d : List Int) : Bool := decide (rd (reduceS n es 0 d).1 0 ≥ 0)
theorem implWin {n : Nat} {es : List E} (g : Gr n es 0) {d : List Int} (hd : d.length = n) (hb : Bd d 1000) (hm : Mod d) : Ep (fun k => impl_winnable.f k (n : Int) es d) (· = winB n es d) := by
  have h1 := g.n1
  have h6 := g.n6
  have hl := (reduceS_bd g hd hb).1
  simp only [impl_winnable.f]
  refine Ep.bind (implSum d (by omega) hm) ?_
  rintro _ rfl
  refine Ep.ite (fun h => Ep.now ?_) (fun _ => ?_)
  · have h2 := ((reduceS_ok g hd hb).bd g.n6 g.hes g.hel g.hq hd).2 0 (by omega) (by omega)
    have h3 := h2.2 rfl
    unfold winB
    rw [eq_comm, decide_eq_false_iff_not]
    omega
  · refine Ep.bind (implReduce g hd hb) ?_
    rintro _ rfl
    exact Ep.pos (by omega) (Ep.now rfl)
def OrOk (n : Int) (es : List E) (o : List Int) : Prop := GOk n es ∧ o.length = es.length ∧ ∀ x ∈ o, x = 0 ∨ x = 1
open Classical in
noncomputable def orB (n : Int) (es : List E) (o : List Int) : Bool := decide (OrOk n es o)
theorem orB_iff {n : Int} {es : List E} {o : List Int} : orB n es o = true ↔ OrOk n es o := by unfold orB; simp
theorem orB_false {n : Int} {es : List E} {o : List Int} (h : ¬ OrOk n es o) : orB n es o = false := by
  cases hb : orB n es o with
  | false => rfl
  | true => exact absurd (orB_iff.1 hb) h
theorem orB_eq {n : Int} {es : List E} {o : List Int} (hg : gOk n es = true) (hl : o.length = es.length) : orB n es o = decide (∀ x ∈ o, x = 0 ∨ x = 1) := by
  rw [Bool.eq_iff_iff, orB_iff, decide_eq_true_eq]
  exact ⟨fun h => h.2.2, fun h => ⟨gOk_true hg, hl, h⟩⟩
theorem implOr (n : Int) (es : List E) (o : List Int) (hl : o.length ≤ 1048576) : Ep (fun k => impl_OrientOk.f k n es o) (· = orB n es o) := by
  simp only [impl_OrientOk.f]
  refine Ep.bind0 (implGraph n es) (Ep.ite (fun hg => ?_) (fun hg => Ep.now (orB_false (fun x => gOk_false hg x.1)).symm))
  refine Ep.ite (fun h => ?_) (fun h => Ep.now (orB_false (fun x => h (by have := x.2.1; omega))).symm)
  refine Ep.bind (allWithin_ok o 0 1 hl) ?_
  rintro _ rfl
  refine Ep.now ?_
  rw [orB_eq hg (by omega)]
  have : ∀ x : Int, (0 ≤ x ∧ x ≤ 1) ↔ (x = 0 ∨ x = 1) := fun x => by omega
  simp only [this]
end Go.Proofs.Ytgobnfeahffnaaa.Cf
end

section
namespace Go.Proofs.Ytgobnfeahffnaaa.Cf
set_option linter.unusedVariables false
set_option linter.unusedSimpArgs false
open Go.RowKit Go.Proofs.YtgobnfeahffnaaaW.PrintWords Go.Proofs.Ytgobnfeahffnaaa.P
/-- Where an edge points to. -/
def headO (e : E) (x : Int) : Int := if x = 0 then e.f1 else e.f0
def tailO (e : E) (x : Int) : Int := if x = 0 then e.f0 else e.f1
theorem implEnds (n : Int) (es : List E) (o : List Int) (i : Nat) (h : i < o.length) (h2 : i < es.length) : impl_ends.f n es o (i : Int) = some (tailO es[i] o[i], headO es[i] o[i]) := by
  unfold impl_ends.f tailO headO
  rw [if_pos (by omega), if_pos (by omega), rd_get h, rdE_get h2, if_pos (show (i : Int) < es.length by omega), if_pos (show (i : Int) < es.length by omega)]
  split <;> rfl
theorem headO_ok {n : Int} {e : E} {x : Int} (h : EOk n e) : 0 ≤ headO e x ∧ headO e x < n := by
  unfold EOk at h
  unfold headO
  split <;> omega
theorem tailO_ok {n : Int} {e : E} {x : Int} (h : EOk n e) : 0 ≤ tailO e x ∧ tailO e x < n := by
  unfold EOk at h
  unfold tailO
  split <;> omega
/-- One more for each edge at its head. -/
def addHeads : List E → List Int → List Int → List Int
  | e :: r, x :: o, l => addHeads r o (l.set (headO e x).toNat (wrap64 (rd l (headO e x) + 1)))
  | _, _, l => l
theorem addHeads_len : ∀ (es : List E) (o l : List Int), (addHeads es o l).length = l.length
  | [], _, _ => rfl
  | _ :: _, [], _ => rfl
  | e :: r, x :: o, l => by
    show (addHeads r o _).length = _
    rw [addHeads_len r o]
    simp
theorem addHeads_drop {es : List E} {o l : List Int} {i : Nat} (h : i < es.length) (h2 : i < o.length) : addHeads (es.drop i) (o.drop i) l = addHeads (es.drop (i + 1)) (o.drop (i + 1)) (l.set (headO es[i] o[i]).toNat (wrap64 (rd l (headO es[i] o[i]) + 1))) := by
  rw [List.drop_eq_getElem_cons h, List.drop_eq_getElem_cons h2]
  rfl
def divL (n : Int) (es : List E) (o : List Int) : List Int := addHeads es o (List.replicate n.toNat (-1))
/-- DivisorOfOrient. -/
noncomputable def divO (n : Int) (es : List E) (o : List Int) : List Int × Bool := if orB n es o = true then (divL n es o, true) else ([], false)
theorem divO_len (n : Int) (es : List E) (o : List Int) : (divO n es o).1.length ≤ 6 := by
  unfold divO
  split
  · rename_i h
    have := (orB_iff.1 h).1.1
    unfold EsOk at this
    simp only [divL, addHeads_len, List.length_replicate]
    omega
  · simp
theorem implDivO_l1 (n : Nat) (es : List E) (o : List Int) (hes : ∀ e ∈ es, EOk n e) (hel : es.length ≤ 12) (hl : o.length = es.length) : ∀ (d i : Nat) (x : List Int), i + d = o.length → x.length = n → Ep (fun k => impl_DivisorOfOrient.l1 k o x (o.length : Int) (i : Int) (n : Int) es) (· = (addHeads (es.drop i) (o.drop i) x, true)) := by
  intro d
  induction d with
  | zero =>
    intro i x hi hx
    refine Ep.up ?_
    simp only [impl_DivisorOfOrient.l1]
    refine Ep.neg (by omega) (Ep.now ?_)
    rw [List.drop_of_length_le (by omega)]
    rfl
  | succ d ih =>
    intro i x hi hx
    have hlt : i < es.length := by omega
    have hlo : i < o.length := by omega
    have hh := headO_ok (x := o[i]) (hes es[i] (List.getElem_mem hlt))
    refine Ep.up ?_
    simp only [impl_DivisorOfOrient.l1]
    refine Ep.pos (by omega) (Ep.bind0 (implEnds _ _ _ _ hlo hlt) (Ep.pos hh.1 (Ep.pos ?_ ?_)))
    · show headO es[i] o[i] < _
      omega
    · rw [addHeads_drop hlt hlo, wrap_succ (by omega)]
      exact ih (i + 1) _ (by omega) (by simpa using hx)
theorem implDivO_l0 (n : Nat) (es : List E) (o : List Int) (hn : n ≤ 6) (hes : ∀ e ∈ es, EOk n e) (hel : es.length ≤ 12) (hl : o.length = es.length) : ∀ (d i : Nat), i + d = n → Ep (fun k => impl_DivisorOfOrient.l0 k o (List.replicate i (-1) ++ List.replicate d 0) (n : Int) (i : Int) (n : Int) es) (· = (divL n es o, true)) := by
  intro d
  induction d with
  | zero =>
    intro i hi
    obtain rfl : i = n := by omega
    refine Ep.up ?_
    simp only [impl_DivisorOfOrient.l0]
    refine Ep.neg (by omega) ?_
    rw [List.replicate_zero, List.append_nil]
    exact implDivO_l1 i es o hes hel hl o.length 0 _ (by omega) (by simp)
  | succ d ih =>
    intro i hi
    refine Ep.up ?_
    simp only [impl_DivisorOfOrient.l0]
    refine Ep.pos (by omega) (Ep.pos (by omega) (Ep.pos (by simp; omega) ?_))
    rw [wrap_succ (by omega)]
    have e : (List.replicate i (-1 : Int) ++ List.replicate (d + 1) 0).set (i : Int).toNat (-1) = List.replicate (i + 1) (-1) ++ List.replicate d 0 := by
      rw [Int.toNat_natCast, List.set_append_right _ _ (by simp), List.length_replicate, Nat.sub_self, List.replicate_succ, List.set_cons_zero, List.replicate_succ', List.append_assoc]
      rfl
    rw [e]
    exact ih (i + 1) (by omega)
theorem implDivO (n : Int) (es : List E) (o : List Int) (hl : o.length ≤ 1048576) : Ep (fun k => impl_DivisorOfOrient.f k n es o) (· = divO n es o) := by
  simp only [impl_DivisorOfOrient.f]
  refine Ep.bind (implOr n es o hl) ?_
  rintro _ rfl
  refine Ep.ite (fun h => ?_) (fun h => Ep.now ?_)
  · have h1 := orB_iff.1 h
    have h2 := h1.1.1
    unfold EsOk at h2
    obtain ⟨m, rfl⟩ := Int.eq_ofNat_of_zero_le (a := n) (by omega)
    refine Ep.pos (by omega) (Ep.pos (by simp only [Int.ofNat_eq_natCast, Int.toNat_natCast]; omega) (Ep.bind0 rfl ?_))
    have := implDivO_l0 m es o (by omega) h2.2.2.2 h2.2.2.1 h1.2.1 m 0 (by omega)
    simp only [List.replicate_zero, List.nil_append] at this
    simp only [Int.ofNat_eq_natCast, Int.toNat_natCast, List.length_replicate]
    refine this.mono ?_
    rintro _ rfl
    unfold divO
    rw [if_pos h]
  · unfold divO
    rw [if_neg h]
def srcs (l : List Int) : Nat → List Int
  | 0 => []
  | i + 1 => srcs l i ++ (if rd l (i : Int) = -1 then [(i : Int)] else [])
theorem srcs_len (l : List Int) : ∀ i, (srcs l i).length ≤ i
  | 0 => Nat.le_refl _
  | i + 1 => by
    have := srcs_len l i
    unfold srcs
    split <;> simp <;> omega
theorem implSrc_l0 (l : List Int) (hl : l.length ≤ 6) : ∀ (d i : Nat), i + d = l.length → Ep (fun k => impl_SourcesOf.l0 k (srcs l i) l (l.length : Int) (i : Int)) (· = srcs l l.length) := by
  intro d
  induction d with
  | zero =>
    intro i hi
    obtain rfl : i = l.length := by omega
    refine Ep.up ?_
    simp only [impl_SourcesOf.l0]
    exact Ep.neg (by omega) (Ep.now rfl)
  | succ d ih =>
    intro i hi
    have hlt : i < l.length := by omega
    have hs := srcs_len l i
    have := ih (i + 1) (by omega)
    rw [show srcs l (i + 1) = srcs l i ++ (if rd l (i : Int) = -1 then [(i : Int)] else []) from rfl] at this
    refine Ep.up ?_
    simp only [impl_SourcesOf.l0]
    rw [wrap_succ (by omega)]
    refine Ep.pos (by omega) (Ep.pos (by omega) (Ep.pos (by omega) (Ep.ite (fun h => Ep.pos (by omega) ?_) (fun h => ?_))))
    · rw [if_pos h] at this
      exact this
    · rw [if_neg h, List.append_nil] at this
      exact this
/-- SourcesOf. -/
noncomputable def srcO (n : Int) (es : List E) (o : List Int) : List Int := if (divO n es o).2 = true then srcs (divO n es o).1 (divO n es o).1.length else []
theorem srcO_len (n : Int) (es : List E) (o : List Int) : (srcO n es o).length ≤ 6 := by
  unfold srcO
  split
  · have := srcs_len (divO n es o).1 (divO n es o).1.length
    have := divO_len n es o
    omega
  · simp
theorem implSrc (n : Int) (es : List E) (o : List Int) (hl : o.length ≤ 1048576) : Ep (fun k => impl_SourcesOf.f k n es o) (· = srcO n es o) := by
  simp only [impl_SourcesOf.f]
  refine Ep.bind (implDivO n es o hl) ?_
  rintro _ rfl
  refine Ep.ite (fun h => ?_) (fun h => Ep.now ?_)
  · have := implSrc_l0 (divO n es o).1 (divO_len n es o) (divO n es o).1.length 0 (by omega)
    refine this.mono ?_
    rintro _ rfl
    unfold srcO
    rw [if_pos h]
  · unfold srcO
    rw [if_neg h]
/-- No edge from the set to v. -/
def freeF (S : Nat → Bool) (v : Int) : List E → List Int → Bool
  | e :: r, x :: o => if headO e x = v ∧ S (tailO e x).toNat = true then false else freeF S v r o
  | _, _ => true
theorem freeF_mono {S S' : Nat → Bool} (h : ∀ v, S v = true → S' v = true) (v : Int) : ∀ (es : List E) (o : List Int), freeF S v es o = false → freeF S' v es o = false
  | [], _, k => by simp [freeF] at k
  | _ :: _, [], k => by simp [freeF] at k
  | e :: r, x :: o, k => by
    unfold freeF at k ⊢
    by_cases c : headO e x = v ∧ S (tailO e x).toNat = true
    · rw [if_pos ⟨c.1, h _ c.2⟩]
    · rw [if_neg c] at k
      split
      · rfl
      · exact freeF_mono h v r o k
/-- Each of its vertices has an edge from it. -/
def Fed (es : List E) (o : List Int) (S : Nat → Bool) : Prop := ∀ v : Nat, S v = true → freeF S (v : Int) es o = false
def Cyc (n : Nat) (es : List E) (o : List Int) : Prop := ∃ C : Nat → Bool, (∀ v, C v = true → v < n) ∧ Fed es o C ∧ ∃ v, C v = true
def cntS (n : Nat) (S : Nat → Bool) : Nat := (List.range n).countP S
structure AInv (n : Nat) (es : List E) (o : List Int) (k : Nat) (S : Nat → Bool) : Prop where
  dom : ∀ v, S v = true → v < n
  big : ∀ C : Nat → Bool, (∀ v, C v = true → v < n) → Fed es o C → ∀ v, C v = true → S v = true
  cnt : Fed es o S ∨ cntS n S + k ≤ n
theorem AInv.round {n : Nat} {es : List E} {o : List Int} {k : Nat} {S S' : Nat → Bool} (h : AInv n es o k S) (hs : ∀ v, S' v = true → S v = true)
    (hp : ∀ C : Nat → Bool, Fed es o C → (∀ v, C v = true → S v = true) → ∀ v, C v = true → S' v = true) (hf : (∀ v, S v = true → S' v = true) → Fed es o S) : AInv n es o (k + 1) S' where
  dom v hv := h.dom v (hs v hv)
  big C hd hc v hv := hp C hc (h.big C hd hc) v hv
  cnt := by
    by_cases c : ∀ v, S v = true → S' v = true
    · left
      have e : S' = S := by
        funext v
        rw [Bool.eq_iff_iff]
        exact ⟨hs v, c v⟩
      rw [e]
      exact hf c
    · right
      rcases h.cnt with hF | hc
      · exact absurd (hp S hF (fun v hv => hv)) c
      · obtain ⟨v, hv⟩ := Classical.not_forall.1 c
        have h1 : S v = true := Classical.byContradiction fun x => hv (fun y => absurd y x)
        have h2 : S' v = false := by
          cases hb : S' v with
          | false => rfl
          | true => exact absurd (fun _ => hb) hv
        have : cntS n S' < cntS n S := countP_lt (fun x _ => hs x) ⟨v, List.mem_range.2 (h.dom v h1), h2, h1⟩
        omega
theorem AInv.last {n : Nat} {es : List E} {o : List Int} {S : Nat → Bool} (h : AInv n es o n S) : (∀ v, v < n → S v = false) ↔ ¬ Cyc n es o := by
  constructor
  · rintro hs ⟨C, hd, hf, v, hv⟩
    have := h.big C hd hf v hv
    rw [hs v (hd v hv)] at this
    cases this
  · intro hc v hv
    cases hb : S v with
    | false => rfl
    | true =>
      exfalso
      rcases h.cnt with hF | hk
      · exact hc ⟨S, h.dom, hF, v, hb⟩
      · have : 0 < cntS n S := List.countP_pos_iff.2 ⟨v, List.mem_range.2 hv, hb⟩
        omega
open Classical in
/-- IsAcyclic. -/
noncomputable def acB (n : Int) (es : List E) (o : List Int) : Bool := orB n es o && decide (¬ Cyc n.toNat es o)
theorem AInv.full {n : Nat} {es : List E} {o : List Int} {S : Nat → Bool} (h : ∀ v, S v = decide (v < n)) : AInv n es o 0 S where
  dom v hv := by
    rw [h] at hv
    simpa using hv
  big C hd _ v hv := by
    rw [h]
    simpa using hd v hv
  cnt := by
    right
    have := List.countP_le_length (p := S) (l := List.range n)
    unfold cntS
    simpa using this
theorem acB_of {n : Nat} {es : List E} {o : List Int} (h : orB (n : Int) es o = true) {r : Bool} (hr : r = true ↔ ¬ Cyc n es o) : r = acB n es o := by
  rw [Bool.eq_iff_iff, hr]
  unfold acB
  rw [h, Int.toNat_natCast]
  simp
def headsF (m : Nat) : List E → List Int → Nat → Nat
  | e :: r, x :: o, a => headsF m r o (if m.testBit (tailO e x).toNat = true then a ||| 2 ^ (headO e x).toNat else a)
  | _, _, a => a
theorem headsF_bit {n : Nat} (m : Nat) (v : Nat) : ∀ (es : List E) (o : List Int) (a : Nat), (∀ e ∈ es, EOk n e) → (headsF m es o a).testBit v = (a.testBit v || !freeF m.testBit (v : Int) es o)
  | [], _, a, _ => by simp [headsF, freeF]
  | _ :: _, [], a, _ => by simp [headsF, freeF]
  | e :: r, x :: o, a, hes => by
    have hh := headO_ok (x := x) (hes e List.mem_cons_self)
    have ih := headsF_bit m v r o (if m.testBit (tailO e x).toNat = true then a ||| 2 ^ (headO e x).toNat else a) (fun y hy => hes y (List.mem_cons_of_mem _ hy))
    unfold headsF freeF
    rw [ih]
    by_cases c : m.testBit (tailO e x).toNat = true
    · rw [if_pos c, Nat.testBit_or, Nat.testBit_two_pow]
      by_cases d : headO e x = (v : Int)
      · rw [if_pos ⟨d, c⟩]
        have : (headO e x).toNat = v := by omega
        simp [this]
      · rw [if_neg (fun y => d y.1)]
        have : ¬ (headO e x).toNat = v := by omega
        simp [this]
    · rw [if_neg c, if_neg (fun y => c y.2)]
theorem headsF_drop {m : Nat} {es : List E} {o : List Int} {i a : Nat} (h : i < es.length) (h2 : i < o.length) : headsF m (es.drop i) (o.drop i) a = headsF m (es.drop (i + 1)) (o.drop (i + 1)) (if m.testBit (tailO es[i] o[i]).toNat = true then a ||| 2 ^ (headO es[i] o[i]).toNat else a) := by
  rw [List.drop_eq_getElem_cons h, List.drop_eq_getElem_cons h2]
  rfl
theorem implAc_l1 (n : Nat) (hn : n ≤ 6) (es : List E) (o : List Int) (hes : ∀ e ∈ es, EOk n e) (hel : es.length ≤ 12) (hl : o.length = es.length) (m : Nat) (hm : m < 2 ^ 6) (x19 x20 : Int) {Q : Bool → Prop} (a0 : Nat)
    (hk : Ep (fun k => impl_IsAcyclic.l0 k o ((m &&& headsF m es o a0 : Nat) : Int) x19 (wrap64 (x20 + 1)) (n : Int) es) Q) :
    ∀ (d i a : Nat), i + d = o.length → a < 2 ^ 6 → headsF m (es.drop i) (o.drop i) a = headsF m es o a0 → Ep (fun k => impl_IsAcyclic.l1 k o (m : Int) (a : Int) x19 x20 (o.length : Int) (i : Int) (n : Int) es) Q := by
  intro d
  induction d with
  | zero =>
    intro i a hi ha he
    refine Ep.up ?_
    simp only [impl_IsAcyclic.l1]
    refine Ep.neg (by omega) ?_
    rw [List.drop_of_length_le (by omega)] at he
    have e : a = headsF m es o a0 := he
    rw [and_nat (by omega) (by omega), e]
    exact hk
  | succ d ih =>
    intro i a hi ha he
    have hlt : i < es.length := by omega
    have hlo : i < o.length := by omega
    have ht := tailO_ok (x := o[i]) (hes es[i] (List.getElem_mem hlt))
    have hh := headO_ok (x := o[i]) (hes es[i] (List.getElem_mem hlt))
    rw [headsF_drop hlt hlo] at he
    refine Ep.up ?_
    simp only [impl_IsAcyclic.l1]
    rw [wrap_succ (by omega)]
    refine Ep.pos (by omega) (Ep.bind0 (implEnds _ _ _ _ hlo hlt) ?_)
    obtain ⟨t, htt⟩ := Int.eq_ofNat_of_zero_le ht.1
    obtain ⟨u, hu⟩ := Int.eq_ofNat_of_zero_le hh.1
    rw [htt, hu] at he
    simp only [Int.ofNat_eq_natCast, Int.toNat_natCast] at he htt hu
    simp only [htt, hu]
    refine Ep.pos (by omega) (Ep.ite (fun h => Ep.pos (by omega) ?_) (fun h => ?_))
    · rw [if_pos ((bit_test (by omega) (by omega)).1 h)] at he
      have pu : 2 ^ u < 2 ^ 6 := Nat.pow_lt_pow_right (by decide) (by omega)
      rw [shl_nat (by omega), or_nat (by omega) (by omega)]
      exact ih (i + 1) _ (by omega) (Nat.or_lt_two_pow ha pu) he
    · rw [if_neg (fun y => h ((bit_test (by omega) (by omega)).2 y))] at he
      exact ih (i + 1) _ (by omega) ha he
theorem implAc_l0 (n : Nat) (hn : n ≤ 6) (es : List E) (o : List Int) (hes : ∀ e ∈ es, EOk n e) (hel : es.length ≤ 12) (hl : o.length = es.length) : ∀ (d i m : Nat), i + d = n → m < 2 ^ 6 → AInv n es o i m.testBit → Ep (fun k => impl_IsAcyclic.l0 k o (m : Int) (n : Int) (i : Int) (n : Int) es) (fun r => r = true ↔ ¬ Cyc n es o) := by
  intro d
  induction d with
  | zero =>
    intro i m hi hm ha
    obtain rfl : i = n := by omega
    refine Ep.up ?_
    simp only [impl_IsAcyclic.l0]
    refine Ep.neg (by omega) (Ep.now ?_)
    rw [← ha.last]
    simp only [beq_iff_eq]
    constructor
    · intro h v _
      have : m = 0 := by omega
      rw [this]
      simp
    · intro h
      have : m = 0 := by
        apply Nat.eq_of_testBit_eq
        intro v
        rw [Nat.zero_testBit]
        cases hb : m.testBit v with
        | false => rfl
        | true => rw [← hb]; exact h v (ha.dom v hb)
      omega
  | succ d ih =>
    intro i m hi hm ha
    refine Ep.up ?_
    simp only [impl_IsAcyclic.l0]
    refine Ep.pos (by omega) ?_
    refine implAc_l1 n hn es o hes hel hl m hm (n : Int) (i : Int) 0 ?_ o.length 0 0 (by omega) (by decide) (by rw [List.drop_zero, List.drop_zero])
    rw [wrap_succ (by omega)]
    have hb : ∀ v, (m &&& headsF m es o 0).testBit v = (m.testBit v && !freeF m.testBit (v : Int) es o) := by
      intro v
      rw [Nat.testBit_and, headsF_bit m v es o 0 hes]
      simp
    refine ih (i + 1) _ (by omega) (Nat.lt_of_le_of_lt Nat.and_le_left hm) (ha.round ?_ ?_ ?_)
    · intro v hv
      rw [hb] at hv
      simp only [Bool.and_eq_true] at hv
      exact hv.1
    · intro C hC hCS v hv
      rw [hb, hCS v hv, freeF_mono hCS _ es o (hC v hv)]
      rfl
    · intro hall v hv
      have := hall v hv
      rw [hb] at this
      simp only [Bool.and_eq_true, Bool.not_eq_true'] at this
      exact this.2
theorem implAc (n : Int) (es : List E) (o : List Int) (hl : o.length ≤ 1048576) : Ep (fun k => impl_IsAcyclic.f k n es o) (· = acB n es o) := by
  simp only [impl_IsAcyclic.f]
  refine Ep.bind (implOr n es o hl) ?_
  rintro _ rfl
  refine Ep.ite (fun h => ?_) (fun h => Ep.now ?_)
  · have h1 := orB_iff.1 h
    have h2 := h1.1.1
    unfold EsOk at h2
    obtain ⟨m, rfl⟩ := Int.eq_ofNat_of_zero_le (a := n) (by omega)
    refine Ep.pos (by omega) ?_
    have hp : 1 ≤ 2 ^ m := Nat.one_le_two_pow
    have hp2 : 2 ^ m ≤ 2 ^ 6 := Nat.pow_le_pow_right (by decide) (by omega)
    have e : wrap64 (shl .i64 1 (m : Int) - 1) = ((2 ^ m - 1 : Nat) : Int) := by
      rw [shl_nat (by omega), wrap_id (by omega) (by omega)]
      omega
    have := implAc_l0 m (by omega) es o h2.2.2.2 h2.2.2.1 h1.2.1 m 0 (2 ^ m - 1) (by omega) (by omega) (AInv.full (fun v => Nat.testBit_two_pow_sub_one m v))
    rw [e]
    refine this.mono ?_
    intro r hr
    exact acB_of h hr
  · have e : orB n es o = false := by simpa using h
    unfold acB
    rw [e]
    rfl
end Go.Proofs.Ytgobnfeahffnaaa.Cf
end

section
namespace Go.Proofs.Ytgobnfeahffnaaa.Cf
set_option linter.unusedVariables false
set_option linter.unusedSimpArgs false
open Go.Proofs.YtgobnfeahffnaaaW.PrintWords
/-- How many edges lead to v. -/
def cntH (v : Int) : List E → List Int → Int
  | e :: r, x :: o => (if headO e x = v then 1 else 0) + cntH v r o
  | _, _ => 0
theorem cntH_nonneg (v : Int) : ∀ (es : List E) (o : List Int), 0 ≤ cntH v es o
  | [], _ => by simp [cntH]
  | _ :: _, [] => by simp [cntH]
  | e :: r, x :: o => by
    have := cntH_nonneg v r o
    unfold cntH
    split <;> omega
theorem cntH_zero (v : Int) : ∀ (es : List E) (o : List Int), cntH v es o = 0 → ∀ i, (h : i < es.length) → (h2 : i < o.length) → headO es[i] o[i] ≠ v
  | [], _, _, i, h, _ => by simp at h
  | _ :: _, [], _, i, _, h => by simp at h
  | e :: r, x :: o, hc, i, h, h2 => by
    have h3 := cntH_nonneg v r o
    unfold cntH at hc
    match i with
    | 0 =>
      intro e
      simp only [List.getElem_cons_zero] at e
      rw [if_pos e] at hc
      omega
    | i + 1 =>
      simp only [List.getElem_cons_succ]
      exact cntH_zero v r o (by split at hc <;> omega) i (by simpa using h) (by simpa using h2)
theorem addHeads_rd {n : Nat} (v : Int) (h0 : 0 ≤ v) (h1 : v < n) : ∀ (es : List E) (o l : List Int), (∀ e ∈ es, EOk n e) → l.length = n → (∀ w : Int, 0 ≤ w → w < n → -1 ≤ rd l w ∧ rd l w + es.length ≤ 1000) → rd (addHeads es o l) v = rd l v + cntH v es o
  | [], _, l, _, _, _ => by simp [addHeads, cntH]
  | _ :: _, [], l, _, _, _ => by simp [addHeads, cntH]
  | e :: r, x :: o, l, hes, hl, hb => by
    have hh := headO_ok (x := x) (hes e List.mem_cons_self)
    have hbh := hb (headO e x) hh.1 hh.2
    rw [List.length_cons] at hbh
    show rd (addHeads r o _) v = _
    rw [addHeads_rd v h0 h1 r o _ (fun y hy => hes y (List.mem_cons_of_mem _ hy)) (by simpa using hl) (fun w w0 w1 => by
      have := hb w w0 w1
      rw [List.length_cons] at this
      rw [rd_set hh.1 (by omega) _ w0, wrap_id (by omega) (by omega)]
      split <;> omega), rd_set hh.1 (by omega) _ h0, wrap_id (by omega) (by omega)]
    show _ = rd l v + ((if headO e x = v then 1 else 0) + cntH v r o)
    by_cases c : v = headO e x
    · rw [if_pos c, if_pos c.symm, c]; omega
    · rw [if_neg c, if_neg (fun y => c y.symm)]; omega
theorem mem_srcs {l : List Int} {v : Int} : ∀ {k : Nat}, v ∈ srcs l k → 0 ≤ v ∧ v < k ∧ rd l v = -1
  | 0, h => by simp [srcs] at h
  | k + 1, h => by
    unfold srcs at h
    rcases List.mem_append.1 h with h | h
    · have := mem_srcs h
      exact ⟨this.1, by omega, this.2.2⟩
    · split at h
      · rename_i hk
        obtain rfl := List.mem_singleton.1 h
        exact ⟨by omega, by omega, hk⟩
      · simp at h
/-- No edge leads to a source. -/
theorem srcO_mem {n : Int} {es : List E} {o : List Int} {v : Int} (h : v ∈ srcO n es o) : OrOk n es o ∧ (0 ≤ v ∧ v < n) ∧ ∀ i, (h : i < es.length) → (h2 : i < o.length) → headO es[i] o[i] ≠ v := by
  unfold srcO at h
  split at h
  · rename_i hd
    have ho : orB n es o = true := by
      apply Classical.byContradiction
      intro hc
      unfold divO at hd
      rw [if_neg hc] at hd
      simp at hd
    have hor := orB_iff.1 ho
    have hg := hor.1.1
    unfold EsOk at hg
    obtain ⟨m, rfl⟩ := Int.eq_ofNat_of_zero_le (a := n) (by omega)
    have e : divO (m : Int) es o = (divL m es o, true) := by unfold divO; rw [if_pos ho]
    have hlen : (divL (m : Int) es o).length = m := by unfold divL; rw [addHeads_len]; simp
    rw [e] at h
    have hm := mem_srcs h
    simp only [hlen] at hm
    refine ⟨hor, ⟨hm.1, hm.2.1⟩, ?_⟩
    have h3 := hm.2.2
    unfold divL at h3
    have hr : ∀ w : Int, 0 ≤ w → w < m → rd (List.replicate ((m : Int)).toNat (-1 : Int)) w = -1 := by
      intro w w0 w1
      obtain ⟨k, rfl⟩ := Int.eq_ofNat_of_zero_le w0
      rw [rd_get (by simp; omega)]
      simp
    rw [addHeads_rd (n := m) v hm.1 hm.2.1 es o _ hg.2.2.2 (by simp) (fun w w0 w1 => by rw [hr w w0 w1]; omega), hr v hm.1 hm.2.1] at h3
    exact cntH_zero v es o (by omega)
  · simp at h
/-- An orientation with the edges at v turned, among the first i. -/
def flipTo (es : List E) (o : List Int) (v : Int) (i : Nat) : List Int :=
  (List.range o.length).map fun j => if j < i ∧ ((es.getD j ⟨0, 0⟩).f0 = v ∨ (es.getD j ⟨0, 0⟩).f1 = v) then 1 - rd o (j : Int) else rd o (j : Int)
theorem flipTo_len (es : List E) (o : List Int) (v : Int) (i : Nat) : (flipTo es o v i).length = o.length := by simp [flipTo]
theorem flipTo_zero (es : List E) (o : List Int) (v : Int) : flipTo es o v 0 = o := by
  apply List.ext_getElem (by simp [flipTo])
  intro j h1 h2
  simp [flipTo, rd_get h2]
theorem flipTo_stay {es : List E} {o : List Int} {v : Int} {i : Nat} (h : i < es.length) (hn : ¬ (es[i].f0 = v ∨ es[i].f1 = v)) : flipTo es o v (i + 1) = flipTo es o v i := by
  apply List.ext_getElem (by simp [flipTo])
  intro j h1 h2
  simp only [flipTo, List.getElem_map, List.getElem_range]
  by_cases c : j = i
  · subst c
    have e : es.getD j ⟨0, 0⟩ = es[j] := by simp [List.getD, h]
    rw [e, if_neg (fun x => hn x.2), if_neg (fun x => hn x.2)]
  · have : j < i + 1 ↔ j < i := by omega
    simp only [this]
theorem flipTo_set {es : List E} {o : List Int} {v : Int} {i : Nat} (h : i < es.length) (h2 : i < o.length) (hp : es[i].f0 = v ∨ es[i].f1 = v) : (flipTo es o v i).set i (1 - o[i]) = flipTo es o v (i + 1) := by
  apply List.ext_getElem (by simp [flipTo])
  intro j h1 h3
  rw [List.getElem_set]
  have e : es.getD i ⟨0, 0⟩ = es[i] := by simp [List.getD, h]
  by_cases c : i = j
  · subst c
    simp only [flipTo, if_true, List.getElem_map, List.getElem_range, e]
    rw [if_pos ⟨by omega, hp⟩, rd_get h2]
  · rw [if_neg c]
    simp only [flipTo, List.getElem_map, List.getElem_range]
    have : j < i + 1 ↔ j < i := by omega
    simp only [this]
noncomputable def flipO (n : Int) (es : List E) (o : List Int) (v : Int) : List Int × Bool := if v ∈ srcO n es o then (flipTo es o v es.length, true) else ([], false)
end Go.Proofs.Ytgobnfeahffnaaa.Cf
end

section
namespace Go.Proofs.Ytgobnfeahffnaaa.P
open Go.RowKit Go.Proofs.YtgobnfeahffnaaaW.PrintWords Go.Proofs.YtgobnfeahffnaaaW.PrintLast Go.Proofs.YtgobnfeahffnaaaW.PrintMore
attribute [local go_sem] max2_int min2_int max_two min_two max_three min_three max_four min_four
set_option linter.unusedVariables false
set_option linter.unusedSimpArgs false
def spec_Stabilize.f (k : Nat) (a0_0 : Int) (l0_1 : List (S83)) (l1 : List Int) (a2 : Int) : Option (List Int × List Int × Bool) := (spec_PileOk.f k a0_0 l0_1 l1 a2).bind fun t102 => (if t102 = true then ((spec_l10Settle.f k a0_0 l0_1 l1 a2).bind fun bt103 => (some (bt103.1, bt103.2, true))) else (some (([] : List Int), ([] : List Int), false)))
theorem spec_Stabilize.mono : ∀ a0 a1 a2 a3 k, LeO (spec_Stabilize.f k a0 a1 a2 a3) (spec_Stabilize.f (k + 1) a0 a1 a2 a3) := by
 intro a0 a1 a2 a3 k; unfold spec_Stabilize.f; repeat' first | (with_reducible apply spec_PileOk.mono) | (with_reducible apply spec_l10Settle.mono) | (with_reducible exact LeO.refl _) | (with_reducible exact LeO.none _) | (with_reducible refine LeO.ite ?_ ?_) | (with_reducible refine LeO.bind ?_ (fun _ => ?_)) | apply spec_PileOk.mono | apply spec_l10Settle.mono | exact LeO.none _ | refine LeO.ite ?_ ?_ | refine LeO.bind ?_ (fun _ => ?_)
def impl_Stabilize.f (k : Nat) (a0_0 : Int) (l0_1 : List (S83)) (l1 : List Int) (a2 : Int) : Option (List Int × List Int × Bool) := (impl_PileOk.f k a0_0 l0_1 l1 a2).bind fun t102 => (if t102 = true then ((impl_stabilize.f k a0_0 l0_1 l1 a2).bind fun bt103 => (some (bt103.1, bt103.2, true))) else (some (([] : List Int), ([] : List Int), false)))
theorem impl_Stabilize.mono : ∀ a0 a1 a2 a3 k, LeO (impl_Stabilize.f k a0 a1 a2 a3) (impl_Stabilize.f (k + 1) a0 a1 a2 a3) := by
 intro a0 a1 a2 a3 k; unfold impl_Stabilize.f; repeat' first | (with_reducible apply impl_PileOk.mono) | (with_reducible apply impl_stabilize.mono) | (with_reducible exact LeO.refl _) | (with_reducible exact LeO.none _) | (with_reducible refine LeO.ite ?_ ?_) | (with_reducible refine LeO.bind ?_ (fun _ => ?_)) | apply impl_PileOk.mono | apply impl_stabilize.mono | exact LeO.none _ | refine LeO.ite ?_ ?_ | refine LeO.bind ?_ (fun _ => ?_)
def impl_AvalancheSize.f (k : Nat) (a0_0 : Int) (l0_1 : List (S83)) (l1 : List Int) (a2 : Int) : Option (Int) := (impl_Stabilize.f k a0_0 l0_1 l1 a2).bind fun bt102 => (if bt102.2.2 = true then ((impl_sumOf.f k bt102.2.1).bind fun t109 => (some t109)) else (some (-1)))
theorem impl_AvalancheSize.mono : ∀ a0 a1 a2 a3 k, LeO (impl_AvalancheSize.f k a0 a1 a2 a3) (impl_AvalancheSize.f (k + 1) a0 a1 a2 a3) := by
 intro a0 a1 a2 a3 k; unfold impl_AvalancheSize.f; repeat' first | (with_reducible apply impl_Stabilize.mono) | (with_reducible apply impl_sumOf.mono) | (with_reducible exact LeO.refl _) | (with_reducible exact LeO.none _) | (with_reducible refine LeO.ite ?_ ?_) | (with_reducible refine LeO.bind ?_ (fun _ => ?_)) | apply impl_Stabilize.mono | apply impl_sumOf.mono | exact LeO.none _ | refine LeO.ite ?_ ?_ | refine LeO.bind ?_ (fun _ => ?_)
mutual
def spec_FullPile.j0 : Nat → Int → Bool → Int → List (S83) → Option (List Int)
 | 0, _, _, _, _ => none
 | k + 1, x1, x17, x102000, x102001 => if x17 = true then (some ([] : List Int)) else (spec_FullPile.l0 k x1 (([] : List Int)) 0 x102000 x102001)
def spec_FullPile.l0 : Nat → Int → List Int → Int → Int → List (S83) → Option (List Int)
 | 0, _, _, _, _, _ => none
 | k + 1, x1, x5, x6, x102000, x102001 => if x6 < x102000 then (if x6 = x1 then (if x5.length < 17592186044416 then (spec_FullPile.l0 k x1 (x5 ++ [0]) (wrap64 (x6 + 1)) x102000 x102001) else (none)) else ((spec_Valence.f k x102000 x102001 x6).bind fun t110 => (if x5.length < 17592186044416 then (spec_FullPile.l0 k x1 (x5 ++ [wrap64 (t110 - 1)]) (wrap64 (x6 + 1)) x102000 x102001) else (none)))) else (some x5)
end
def spec_FullPile.f (k : Nat) (a0_0 : Int) (l0_1 : List (S83)) (a1 : Int) : Option (List Int) := (spec_GraphOk.f k a0_0 l0_1).bind fun t102 => (if t102 = true then ((spec_l01In.f a1 0 (wrap64 (a0_0 - 1))).bind fun t103 => (spec_FullPile.j0 k a1 (!t103) a0_0 l0_1)) else (spec_FullPile.j0 k a1 true a0_0 l0_1))
theorem spec_FullPile.mono_l : ∀ k, (∀ y0 y1 y2 y3, LeO (spec_FullPile.j0 k y0 y1 y2 y3) (spec_FullPile.j0 (k + 1) y0 y1 y2 y3)) ∧ (∀ y0 y1 y2 y3 y4, LeO (spec_FullPile.l0 k y0 y1 y2 y3 y4) (spec_FullPile.l0 (k + 1) y0 y1 y2 y3 y4))
 | 0 => ⟨fun _ _ _ _ r h => by simp [spec_FullPile.j0] at h, fun _ _ _ _ _ r h => by simp [spec_FullPile.l0] at h⟩
 | k + 1 => by
  obtain ⟨ih0, ih1⟩ := spec_FullPile.mono_l k
  refine ⟨?_, ?_⟩
  ·intro y0 y1 y2 y3
   unfold spec_FullPile.j0
   exact zm12
  ·intro y0 y1 y2 y3 y4
   unfold spec_FullPile.l0
   exact zm12
theorem spec_FullPile.mono : ∀ a0 a1 a2 k, LeO (spec_FullPile.f k a0 a1 a2) (spec_FullPile.f (k + 1) a0 a1 a2) := by
 intro a0 a1 a2 k; obtain ⟨ih0, ih1⟩ := spec_FullPile.mono_l k; unfold spec_FullPile.f; exact zm12
end Go.Proofs.Ytgobnfeahffnaaa.P
end

section
namespace Go.Proofs.Ytgobnfeahffnaaa.P
open Go.RowKit Go.Proofs.YtgobnfeahffnaaaW.PrintWords Go.Proofs.YtgobnfeahffnaaaW.PrintLast Go.Proofs.YtgobnfeahffnaaaW.PrintMore
attribute [local go_sem] max2_int min2_int max_two min_two max_three min_three max_four min_four
set_option linter.unusedVariables false
set_option linter.unusedSimpArgs false
def impl_FullPile.l0 : Nat → Int → List Int → Int → Int → Int → List (S83) → Option (List Int)
 | 0, _, _, _, _, _, _ => none
 | k + 1, x1, x5, x15, x16, x102000, x102001 => if x16 < x15 then (if x16 = x1 then (impl_FullPile.l0 k x1 x5 x15 (wrap64 (x16 + 1)) x102000 x102001) else ((impl_Valence.f k x102000 x102001 x16).bind fun t106 => (if 0 ≤ x16 then (if x16 < (x5.length : Int) then (impl_FullPile.l0 k x1 (x5.set (x16 : Int).toNat (wrap64 (t106 - 1))) x15 (wrap64 (x16 + 1)) x102000 x102001) else (none)) else (none)))) else (some x5)
def impl_FullPile.f (k : Nat) (a0_0 : Int) (l0_1 : List (S83)) (a1 : Int) : Option (List Int) := (impl_isVertex.f a0_0 l0_1 a1).bind fun t102 => (if t102 = true then (if 0 ≤ a0_0 then (if (a0_0 : Int).toNat ≤ 35184372088832 then ((some (List.replicate (a0_0 : Int).toNat 0 : List Int)).bind fun y103 => (impl_FullPile.l0 k a1 y103 (y103.length : Int) 0 a0_0 l0_1)) else (none)) else (none)) else (some ([] : List Int)))
theorem impl_FullPile.mono_l : ∀ k, (∀ y0 y1 y2 y3 y4 y5, LeO (impl_FullPile.l0 k y0 y1 y2 y3 y4 y5) (impl_FullPile.l0 (k + 1) y0 y1 y2 y3 y4 y5))
 | 0 => fun _ _ _ _ _ _ r h => by simp [impl_FullPile.l0] at h
 | k + 1 => by
  have ih0 := impl_FullPile.mono_l k
  ·intro y0 y1 y2 y3 y4 y5
   unfold impl_FullPile.l0
   exact zm9
theorem impl_FullPile.mono : ∀ a0 a1 a2 k, LeO (impl_FullPile.f k a0 a1 a2) (impl_FullPile.f (k + 1) a0 a1 a2) := by
 intro a0 a1 a2 k; have ih0 := impl_FullPile.mono_l k; unfold impl_FullPile.f; exact zm9
end Go.Proofs.Ytgobnfeahffnaaa.P
end

section
namespace Go.Proofs.Ytgobnfeahffnaaa.Cf
set_option linter.unusedVariables false
set_option linter.unusedSimpArgs false
open Go.RowKit Go.Proofs.YtgobnfeahffnaaaW.PrintWords Go.Proofs.Ytgobnfeahffnaaa.P
theorem map_take_succ {α : Type} (f : Nat → α) (n i : Nat) (h : i < n) : ((List.range n).map f).take (i + 1) = ((List.range n).map f).take i ++ [f i] := by
  rw [List.take_succ_eq_append_getElem (by simpa using h)]
  simp
end Go.Proofs.Ytgobnfeahffnaaa.Cf
end

section
namespace Go.Proofs.Ytgobnfeahffnaaa.P
open Go.RowKit Go.Proofs.YtgobnfeahffnaaaW.PrintWords Go.Proofs.YtgobnfeahffnaaaW.PrintLast Go.Proofs.YtgobnfeahffnaaaW.PrintMore
attribute [local go_sem] max2_int min2_int max_two min_two max_three min_three max_four min_four
set_option linter.unusedVariables false
set_option linter.unusedSimpArgs false
def spec_AddDivisors.l0 : Nat → List Int → List Int → List Int → Int → Int → Option (List Int × Bool)
 | 0, _, _, _, _, _ => none
 | k + 1, x1, x6, x15, x16, x17 => if x17 < x16 then (if 0 ≤ x17 then (if x17 < (x15.length : Int) then (if x17 < (x1.length : Int) then (if x6.length < 17592186044416 then (spec_AddDivisors.l0 k x1 (x6 ++ [wrap64 ((rd x15 x17) + (rd x1 x17))]) x15 x16 (wrap64 (x17 + 1))) else (none)) else (none)) else (none)) else (none)) else (some (x6, true))
def spec_AddDivisors.f (k : Nat) (l0 : List Int) (l1 : List Int) : Option (List Int × Bool) := if (l0.length : Int) = (l1.length : Int) then (spec_AddDivisors.l0 k l1 (([] : List Int)) l0 (l0.length : Int) 0) else (some (([] : List Int), false))
theorem spec_AddDivisors.mono_l : ∀ k, (∀ y0 y1 y2 y3 y4, LeO (spec_AddDivisors.l0 k y0 y1 y2 y3 y4) (spec_AddDivisors.l0 (k + 1) y0 y1 y2 y3 y4))
 | 0 => fun _ _ _ _ _ r h => by simp [spec_AddDivisors.l0] at h
 | k + 1 => by
  have ih0 := spec_AddDivisors.mono_l k
  ·intro y0 y1 y2 y3 y4
   unfold spec_AddDivisors.l0
   exact zm0
theorem spec_AddDivisors.mono : ∀ a0 a1 k, LeO (spec_AddDivisors.f k a0 a1) (spec_AddDivisors.f (k + 1) a0 a1) := by
 intro a0 a1 k; have ih0 := spec_AddDivisors.mono_l k; unfold spec_AddDivisors.f; exact zm0
def spec_l07Minus.l0 : Nat → List Int → List Int → List Int → Int → Int → Option (List Int)
 | 0, _, _, _, _, _ => none
 | k + 1, x1, x5, x9, x10, x11 => if x11 < x10 then (if 0 ≤ x11 then (if x11 < (x9.length : Int) then (if x11 < (x1.length : Int) then (if x5.length < 17592186044416 then (spec_l07Minus.l0 k x1 (x5 ++ [wrap64 ((rd x9 x11) - (rd x1 x11))]) x9 x10 (wrap64 (x11 + 1))) else (none)) else (none)) else (none)) else (none)) else (some x5)
def spec_l07Minus.f (k : Nat) (l0 : List Int) (l1 : List Int) : Option (List Int) := spec_l07Minus.l0 k l1 (([] : List Int)) l0 (l0.length : Int) 0
theorem spec_l07Minus.mono_l : ∀ k, (∀ y0 y1 y2 y3 y4, LeO (spec_l07Minus.l0 k y0 y1 y2 y3 y4) (spec_l07Minus.l0 (k + 1) y0 y1 y2 y3 y4))
 | 0 => fun _ _ _ _ _ r h => by simp [spec_l07Minus.l0] at h
 | k + 1 => by
  have ih0 := spec_l07Minus.mono_l k
  ·intro y0 y1 y2 y3 y4
   unfold spec_l07Minus.l0
   exact zm0
theorem spec_l07Minus.mono : ∀ a0 a1 k, LeO (spec_l07Minus.f k a0 a1) (spec_l07Minus.f (k + 1) a0 a1) := by
 intro a0 a1 k; have ih0 := spec_l07Minus.mono_l k; unfold spec_l07Minus.f; exact zm0
def impl_NegateDivisor.l0 : Nat → List Int → Int → Int → Option (List Int)
 | 0, _, _, _ => none
 | k + 1, x3, x8, x9 => if x9 < x8 then (if 0 ≤ x9 then (if x9 < (x3.length : Int) then (impl_NegateDivisor.l0 k (x3.set (x9 : Int).toNat (wrap64 (-(rd x3 x9)))) x8 (wrap64 (x9 + 1))) else (none)) else (none)) else (some x3)
def impl_NegateDivisor.f (k : Nat) (l0 : List Int) : Option (List Int) := (impl_copyInts.f l0).bind fun t101 => (impl_NegateDivisor.l0 k t101 (t101.length : Int) 0)
theorem impl_NegateDivisor.mono_l : ∀ k, (∀ y0 y1 y2, LeO (impl_NegateDivisor.l0 k y0 y1 y2) (impl_NegateDivisor.l0 (k + 1) y0 y1 y2))
 | 0 => fun _ _ _ r h => by simp [impl_NegateDivisor.l0] at h
 | k + 1 => by
  have ih0 := impl_NegateDivisor.mono_l k
  ·intro y0 y1 y2
   unfold impl_NegateDivisor.l0
   exact zm0
theorem impl_NegateDivisor.mono : ∀ a0 k, LeO (impl_NegateDivisor.f k a0) (impl_NegateDivisor.f (k + 1) a0) := by
 intro a0 k; have ih0 := impl_NegateDivisor.mono_l k; unfold impl_NegateDivisor.f; exact zm0
def slices_Equal_int_int.l0 : Nat → List Int → List Int → Int → Int → Option (Bool)
 | 0, _, _, _, _ => none
 | k + 1, x0, x1, x12, x13 => if x13 < x12 then (if 0 ≤ x13 then (if x13 < (x0.length : Int) then (if x13 < (x1.length : Int) then (if (rd x0 x13) = (rd x1 x13) then (slices_Equal_int_int.l0 k x0 x1 x12 (wrap64 (x13 + 1))) else (some false)) else (none)) else (none)) else (none)) else (some true)
def slices_Equal_int_int.f (k : Nat) (l0 : List Int) (l1 : List Int) : Option (Bool) := if (l0.length : Int) = (l1.length : Int) then (slices_Equal_int_int.l0 k l0 l1 (l0.length : Int) 0) else (some false)
theorem slices_Equal_int_int.mono_l : ∀ k, (∀ y0 y1 y2 y3, LeO (slices_Equal_int_int.l0 k y0 y1 y2 y3) (slices_Equal_int_int.l0 (k + 1) y0 y1 y2 y3))
 | 0 => fun _ _ _ _ r h => by simp [slices_Equal_int_int.l0] at h
 | k + 1 => by
  have ih0 := slices_Equal_int_int.mono_l k
  ·intro y0 y1 y2 y3
   unfold slices_Equal_int_int.l0
   exact zm0
theorem slices_Equal_int_int.mono : ∀ a0 a1 k, LeO (slices_Equal_int_int.f k a0 a1) (slices_Equal_int_int.f (k + 1) a0 a1) := by
 intro a0 a1 k; have ih0 := slices_Equal_int_int.mono_l k; unfold slices_Equal_int_int.f; exact zm0
def impl_SameDivisor.f (k : Nat) (l0 : List Int) (l1 : List Int) : Option (Bool) := (slices_Equal_int_int.f k l0 l1).bind fun t101 => (some t101)
theorem impl_SameDivisor.mono : ∀ a0 a1 k, LeO (impl_SameDivisor.f k a0 a1) (impl_SameDivisor.f (k + 1) a0 a1) := by
 intro a0 a1 k; unfold impl_SameDivisor.f; repeat' first | (with_reducible apply slices_Equal_int_int.mono) | (with_reducible exact LeO.refl _) | (with_reducible exact LeO.none _) | (with_reducible refine LeO.ite ?_ ?_) | (with_reducible refine LeO.bind ?_ (fun _ => ?_)) | apply slices_Equal_int_int.mono | exact LeO.none _ | refine LeO.ite ?_ ?_ | refine LeO.bind ?_ (fun _ => ?_)
end Go.Proofs.Ytgobnfeahffnaaa.P
end

section
namespace Go.Proofs.Ytgobnfeahffnaaa.Cf
set_option linter.unusedVariables false
set_option linter.unusedSimpArgs false
open Go.RowKit Go.Proofs.YtgobnfeahffnaaaW.PrintWords Go.Proofs.Ytgobnfeahffnaaa.P
theorem repL_take {n i : Nat} (f : Int → Int) (h : i < n) : (repL n f).take (i + 1) = (repL n f).take i ++ [f (i : Int)] := by
  unfold repL
  exact map_take_succ (fun j : Nat => f (j : Int)) n i h
theorem repL_congr {n : Nat} {f g : Int → Int} (h : ∀ w : Int, 0 ≤ w → w < n → f w = g w) : repL n f = repL n g := ((repL_rep n f).congr h).eq
def plusL (a b : List Int) : List Int := repL a.length fun w => rd a w + rd b w
theorem implPlus_l0 (a b : List Int) (n : Nat) (hn : n ≤ 1048576) (ha : a.length = n) (hb : b.length = n) (ba : Bd a 1000000000) (bb : Bd b 1000000000) : ∀ (d i : Nat) (x : List Int), i + d = n → Rep n x (fun w => if w < i then rd a w + rd b w else rd a w) → Ep (fun k => impl_plus.l0 k b x (n : Int) (i : Int)) (· = plusL a b) := by
  intro d
  induction d with
  | zero =>
    intro i x hi hx
    obtain rfl : i = n := by omega
    refine Ep.up ?_
    simp only [impl_plus.l0]
    refine Ep.neg (by omega) (Ep.now ?_)
    unfold plusL
    rw [ha]
    exact (hx.congr fun w _ w1 => by rw [if_pos w1]).eq
  | succ d ih =>
    intro i x hi hx
    have hxl := hx.1
    have h1 := ba i (by omega) (by omega)
    have h2 := bb i (by omega) (by omega)
    have hxi : rd x (i : Int) = rd a (i : Int) := by
      have h9 := hx.2 i (by omega) (by omega)
      simp only [if_neg (show ¬ (i : Int) < i by omega)] at h9
      exact h9
    refine Ep.up ?_
    simp only [impl_plus.l0]
    refine Ep.pos (by omega) (Ep.pos (by omega) (Ep.pos (by omega) (Ep.pos (by omega) ?_)))
    rw [wrap_succ (by omega), hxi, wrap_id (by omega) (by omega)]
    refine ih (i + 1) _ (by omega) ((hx.set (v := (i : Int)) (by omega) (by omega) _).congr fun w _ _ => ?_)
    by_cases e : w = i
    · rw [if_pos e, if_pos (by omega), e]
    · rw [if_neg e]
      by_cases e2 : w < i
      · rw [if_pos e2, if_pos (by omega)]
      · rw [if_neg e2, if_neg (by omega)]
theorem implPlus (a b : List Int) (hl : a.length ≤ 1048576) (hab : a.length = b.length) (ba : Bd a 1000000000) (bb : Bd b 1000000000) : Ep (fun k => impl_plus.f k a b) (· = plusL a b) := by
  simp only [impl_plus.f]
  refine Ep.bind0 (copy_eq a hl) ?_
  exact implPlus_l0 a b a.length hl rfl hab.symm ba bb a.length 0 a (by omega) ((Rep.self rfl).congr fun w w0 _ => by rw [if_neg (by omega)])
end Go.Proofs.Ytgobnfeahffnaaa.Cf
end

section
namespace Go.Proofs.Ytgobnfeahffnaaa.P
open Go.RowKit Go.Proofs.YtgobnfeahffnaaaW.PrintWords Go.Proofs.YtgobnfeahffnaaaW.PrintLast Go.Proofs.YtgobnfeahffnaaaW.PrintMore
attribute [local go_sem] max2_int min2_int max_two min_two max_three min_three max_four min_four
set_option linter.unusedVariables false
set_option linter.unusedSimpArgs false
def spec_SumOfPiles.j0 : Nat → List Int → List Int → Int → Bool → Int → List (S83) → Option (List Int × Bool)
 | 0, _, _, _, _, _, _ => none
 | k + 1, x1, x2, x3, x26, x102000, x102001 => if x26 = true then (some (([] : List Int), false)) else ((spec_AddDivisors.f k x1 x2).bind fun bt104 => ((spec_Stabilize.f k x102000 x102001 bt104.1 x3).bind fun bt108 => (some (bt108.1, bt108.2.2))))
def spec_SumOfPiles.f (k : Nat) (a0_0 : Int) (l0_1 : List (S83)) (l1 : List Int) (l2 : List Int) (a3 : Int) : Option (List Int × Bool) := (spec_PileOk.f k a0_0 l0_1 l1 a3).bind fun t102 => (if t102 = true then ((spec_PileOk.f k a0_0 l0_1 l2 a3).bind fun t103 => (spec_SumOfPiles.j0 k l1 l2 a3 (!t103) a0_0 l0_1)) else (spec_SumOfPiles.j0 k l1 l2 a3 true a0_0 l0_1))
theorem spec_SumOfPiles.mono_l : ∀ k, (∀ y0 y1 y2 y3 y4 y5, LeO (spec_SumOfPiles.j0 k y0 y1 y2 y3 y4 y5) (spec_SumOfPiles.j0 (k + 1) y0 y1 y2 y3 y4 y5))
 | 0 => fun _ _ _ _ _ _ r h => by simp [spec_SumOfPiles.j0] at h
 | k + 1 => by
  have ih0 := spec_SumOfPiles.mono_l k
  ·intro y0 y1 y2 y3 y4 y5
   unfold spec_SumOfPiles.j0
   exact zm14
theorem spec_SumOfPiles.mono : ∀ a0 a1 a2 a3 a4 k, LeO (spec_SumOfPiles.f k a0 a1 a2 a3 a4) (spec_SumOfPiles.f (k + 1) a0 a1 a2 a3 a4) := by
 intro a0 a1 a2 a3 a4 k; have ih0 := spec_SumOfPiles.mono_l k; unfold spec_SumOfPiles.f; exact zm14
def impl_SumOfPiles.j0 : Nat → List Int → List Int → Int → Bool → Int → List (S83) → Option (List Int × Bool)
 | 0, _, _, _, _, _, _ => none
 | k + 1, x1, x2, x3, x32, x102000, x102001 => if x32 = true then (some (([] : List Int), false)) else ((impl_plus.f k x1 x2).bind fun t108 => ((impl_stabilize.f k x102000 x102001 t108 x3).bind fun bt111 => (some (bt111.1, true))))
def impl_SumOfPiles.f (k : Nat) (a0_0 : Int) (l0_1 : List (S83)) (l1 : List Int) (l2 : List Int) (a3 : Int) : Option (List Int × Bool) := (impl_PileOk.f k a0_0 l0_1 l1 a3).bind fun t102 => (if t102 = true then ((impl_PileOk.f k a0_0 l0_1 l2 a3).bind fun t103 => (if t103 = true then ((impl_plus.f k l1 l2).bind fun t104 => ((impl_PileOk.f k a0_0 l0_1 t104 a3).bind fun t107 => (impl_SumOfPiles.j0 k l1 l2 a3 (!t107) a0_0 l0_1))) else (impl_SumOfPiles.j0 k l1 l2 a3 true a0_0 l0_1))) else (impl_SumOfPiles.j0 k l1 l2 a3 true a0_0 l0_1))
theorem impl_SumOfPiles.mono_l : ∀ k, (∀ y0 y1 y2 y3 y4 y5, LeO (impl_SumOfPiles.j0 k y0 y1 y2 y3 y4 y5) (impl_SumOfPiles.j0 (k + 1) y0 y1 y2 y3 y4 y5))
 | 0 => fun _ _ _ _ _ _ r h => by simp [impl_SumOfPiles.j0] at h
 | k + 1 => by
  have ih0 := impl_SumOfPiles.mono_l k
  ·intro y0 y1 y2 y3 y4 y5
   unfold impl_SumOfPiles.j0
   exact zm16
theorem impl_SumOfPiles.mono : ∀ a0 a1 a2 a3 a4 k, LeO (impl_SumOfPiles.f k a0 a1 a2 a3 a4) (impl_SumOfPiles.f (k + 1) a0 a1 a2 a3 a4) := by
 intro a0 a1 a2 a3 a4 k; have ih0 := impl_SumOfPiles.mono_l k; unfold impl_SumOfPiles.f; exact zm16
def impl_IsRecurrent.l0 : Nat → List Int → Int → List Int → List Int → Int → Int → Option (Bool)
 | 0, _, _, _, _, _, _ => none
 | k + 1, x1, x2, x8, x33, x34, x35 => if x35 < x34 then (if 0 ≤ x35 then (if x35 < (x33.length : Int) then (if x35 = x2 then (impl_IsRecurrent.l0 k x1 x2 x8 x33 x34 (wrap64 (x35 + 1))) else (if (rd x33 x35) = 1 then (impl_IsRecurrent.l0 k x1 x2 x8 x33 x34 (wrap64 (x35 + 1))) else (some false))) else (none)) else (none)) else ((impl_SameDivisor.f k x8 x1).bind fun t115 => (some t115))
def impl_IsRecurrent.f (k : Nat) (a0_0 : Int) (l0_1 : List (S83)) (l1 : List Int) (a2 : Int) : Option (Bool) := (impl_IsStable.f k a0_0 l0_1 l1 a2).bind fun t102 => (if t102 = true then ((impl_copyInts.f l1).bind fun t103 => ((impl_fire.f k a0_0 l0_1 t103 a2 1).bind fun t106 => (if 0 ≤ a2 then (if a2 < (t103.length : Int) then ((impl_stabilize.f k a0_0 l0_1 (t106.set (a2 : Int).toNat 0) a2).bind fun bt108 => (impl_IsRecurrent.l0 k l1 a2 bt108.1 bt108.2 (bt108.2.length : Int) 0)) else (none)) else (none)))) else (some false))
theorem impl_IsRecurrent.mono_l : ∀ k, (∀ y0 y1 y2 y3 y4 y5, LeO (impl_IsRecurrent.l0 k y0 y1 y2 y3 y4 y5) (impl_IsRecurrent.l0 (k + 1) y0 y1 y2 y3 y4 y5))
 | 0 => fun _ _ _ _ _ _ r h => by simp [impl_IsRecurrent.l0] at h
 | k + 1 => by
  have ih0 := impl_IsRecurrent.mono_l k
  ·intro y0 y1 y2 y3 y4 y5
   unfold impl_IsRecurrent.l0
   exact zm13
theorem impl_IsRecurrent.mono : ∀ a0 a1 a2 a3 k, LeO (impl_IsRecurrent.f k a0 a1 a2 a3) (impl_IsRecurrent.f (k + 1) a0 a1 a2 a3) := by
 intro a0 a1 a2 a3 k; have ih0 := impl_IsRecurrent.mono_l k; unfold impl_IsRecurrent.f; exact zm13
def spec_l09Zero.f (k : Nat) (a0_0 : Int) (l0_1 : List (S83)) (l1 : List Int) : Option (Bool) := (spec_DivisorOk.f k a0_0 l0_1 l1).bind fun t102 => (if t102 = true then ((spec_DegreeOf.f k l1).bind fun t103 => (some (t103 == 0))) else (some false))
theorem spec_l09Zero.mono : ∀ a0 a1 a2 k, LeO (spec_l09Zero.f k a0 a1 a2) (spec_l09Zero.f (k + 1) a0 a1 a2) := by
 intro a0 a1 a2 k; unfold spec_l09Zero.f; repeat' first | (with_reducible apply spec_DegreeOf.mono) | (with_reducible apply spec_DivisorOk.mono) | (with_reducible exact LeO.refl _) | (with_reducible exact LeO.none _) | (with_reducible refine LeO.ite ?_ ?_) | (with_reducible refine LeO.bind ?_ (fun _ => ?_)) | apply spec_DegreeOf.mono | apply spec_DivisorOk.mono | exact LeO.none _ | refine LeO.ite ?_ ?_ | refine LeO.bind ?_ (fun _ => ?_)
def impl_ofDegreeZero.f (k : Nat) (a0_0 : Int) (l0_1 : List (S83)) (l1 : List Int) : Option (Bool) := (impl_DivisorOk.f k a0_0 l0_1 l1).bind fun t102 => (if t102 = true then ((impl_DegreeOf.f k l1).bind fun t103 => (some (t103 == 0))) else (some false))
theorem impl_ofDegreeZero.mono : ∀ a0 a1 a2 k, LeO (impl_ofDegreeZero.f k a0 a1 a2) (impl_ofDegreeZero.f (k + 1) a0 a1 a2) := by
 intro a0 a1 a2 k; unfold impl_ofDegreeZero.f; repeat' first | (with_reducible apply impl_DegreeOf.mono) | (with_reducible apply impl_DivisorOk.mono) | (with_reducible exact LeO.refl _) | (with_reducible exact LeO.none _) | (with_reducible refine LeO.ite ?_ ?_) | (with_reducible refine LeO.bind ?_ (fun _ => ?_)) | apply impl_DegreeOf.mono | apply impl_DivisorOk.mono | exact LeO.none _ | refine LeO.ite ?_ ?_ | refine LeO.bind ?_ (fun _ => ?_)
def spec_l11Full.f (k : Nat) (a0_0 : Int) (l0_1 : List (S83)) (l1 : List Int) (a2 : Int) : Option (List Int) := (spec_FullPile.f k a0_0 l0_1 a2).bind fun t102 => ((spec_l07Minus.f k t102 l1).bind fun t105 => (if 0 ≤ a2 then (if a2 < (t105.length : Int) then (some (t105.set (a2 : Int).toNat 0)) else (none)) else (none)))
theorem spec_l11Full.mono : ∀ a0 a1 a2 a3 k, LeO (spec_l11Full.f k a0 a1 a2 a3) (spec_l11Full.f (k + 1) a0 a1 a2 a3) := by
 intro a0 a1 a2 a3 k; unfold spec_l11Full.f; repeat' first | (with_reducible apply spec_FullPile.mono) | (with_reducible apply spec_l07Minus.mono) | (with_reducible exact LeO.refl _) | (with_reducible exact LeO.none _) | (with_reducible refine LeO.ite ?_ ?_) | (with_reducible refine LeO.bind ?_ (fun _ => ?_)) | apply spec_FullPile.mono | apply spec_l07Minus.mono | exact LeO.none _ | refine LeO.ite ?_ ?_ | refine LeO.bind ?_ (fun _ => ?_)
def spec_l11Class.f (k : Nat) (a0_0 : Int) (l0_1 : List (S83)) (l1 : List Int) (a2 : Int) : Option (List Int) := (spec_FullPile.f k a0_0 l0_1 a2).bind fun t102 => ((spec_l07Minus.f k t102 l1).bind fun t105 => ((spec_l05Reduce.f k a0_0 l0_1 t105 a2).bind fun bt108 => ((spec_l11Full.f k a0_0 l0_1 bt108.1 a2).bind fun t114 => (some t114))))
theorem spec_l11Class.mono : ∀ a0 a1 a2 a3 k, LeO (spec_l11Class.f k a0 a1 a2 a3) (spec_l11Class.f (k + 1) a0 a1 a2 a3) := by
 intro a0 a1 a2 a3 k; unfold spec_l11Class.f; repeat' first | (with_reducible apply spec_FullPile.mono) | (with_reducible apply spec_l05Reduce.mono) | (with_reducible apply spec_l07Minus.mono) | (with_reducible apply spec_l11Full.mono) | (with_reducible exact LeO.refl _) | (with_reducible exact LeO.none _) | (with_reducible refine LeO.ite ?_ ?_) | (with_reducible refine LeO.bind ?_ (fun _ => ?_)) | apply spec_FullPile.mono | apply spec_l05Reduce.mono | apply spec_l07Minus.mono | apply spec_l11Full.mono | exact LeO.none _ | refine LeO.ite ?_ ?_ | refine LeO.bind ?_ (fun _ => ?_)
def impl_recurrentOf.f (k : Nat) (a0_0 : Int) (l0_1 : List (S83)) (l1 : List Int) (a2 : Int) : Option (List Int) := (impl_FullPile.f k a0_0 l0_1 a2).bind fun t102 => ((impl_NegateDivisor.f k l1).bind fun t105 => ((impl_plus.f k t102 t105).bind fun t108 => ((impl_reduce.f k a0_0 l0_1 t108 a2).bind fun bt111 => ((impl_NegateDivisor.f k bt111.1).bind fun t117 => ((impl_plus.f k t102 t117).bind fun t120 => (if 0 ≤ a2 then (if a2 < (t120.length : Int) then (some (t120.set (a2 : Int).toNat 0)) else (none)) else (none)))))))
theorem impl_recurrentOf.mono : ∀ a0 a1 a2 a3 k, LeO (impl_recurrentOf.f k a0 a1 a2 a3) (impl_recurrentOf.f (k + 1) a0 a1 a2 a3) := by
 intro a0 a1 a2 a3 k; unfold impl_recurrentOf.f; repeat' first | (with_reducible apply impl_FullPile.mono) | (with_reducible apply impl_NegateDivisor.mono) | (with_reducible apply impl_plus.mono) | (with_reducible apply impl_reduce.mono) | (with_reducible exact LeO.refl _) | (with_reducible exact LeO.none _) | (with_reducible refine LeO.ite ?_ ?_) | (with_reducible refine LeO.bind ?_ (fun _ => ?_)) | apply impl_FullPile.mono | apply impl_NegateDivisor.mono | apply impl_plus.mono | apply impl_reduce.mono | exact LeO.none _ | refine LeO.ite ?_ ?_ | refine LeO.bind ?_ (fun _ => ?_)
end Go.Proofs.Ytgobnfeahffnaaa.P
end

section
namespace Go.Proofs.Ytgobnfeahffnaaa.Cf
set_option linter.unusedVariables false
set_option linter.unusedSimpArgs false
open Go.RowKit Go.Proofs.YtgobnfeahffnaaaW.PrintWords Go.Proofs.Ytgobnfeahffnaaa.P
def bOk (n : Int) (es : List E) (d : List Int) (q : Int) : Bool := dOk n es d && decide (0 ≤ q ∧ q < n)
def bfO (n : Int) (es : List E) (d : List Int) (q : Int) : List Int × Bool := if bOk n es d q = true then (burnF n.toNat es (rd d) q, true) else ([], false)
theorem bOk_all {n : Int} {es : List E} {d : List Int} {q : Int} (h : bOk n es d q = true) : ∃ m : Nat, n = m ∧ Gr m es q ∧ GOk (m : Int) es ∧ d.length = m ∧ Bd d 60 := by
  unfold bOk at h
  rw [Bool.and_eq_true, decide_eq_true_eq] at h
  have hg := (dOk_iff.1 h.1).1
  obtain ⟨m, rfl, g, _, _, hl, hb, _⟩ := dOk_all h.1
  exact ⟨m, rfl, g q h.2.1 h.2.2, hg, hl, hb⟩
theorem bfO_yes {m : Nat} {es : List E} {d : List Int} {q : Int} (h : bOk m es d q = true) : bfO m es d q = (burnF m es (rd d) q, true) := by
  unfold bfO
  rw [if_pos h]
  rfl
theorem bfO_snd {n : Int} {es : List E} {d : List Int} {q : Int} : (bfO n es d q).2 = bOk n es d q := by
  unfold bfO
  cases bOk n es d q <;> rfl
theorem implBF (n : Int) (es : List E) (d : List Int) (q : Int) (hn : Wf .i64 n) (hl : d.length ≤ 1048576) : Ep (fun k => impl_BurnFrom.f k n es d q) (· = bfO n es d q) := by
  simp only [impl_BurnFrom.f, bfO]
  refine Ep.bind (implDiv n es d hl) ?_
  rintro _ rfl
  refine Ep.ite (fun h => ?_) (fun h => Ep.now ?_)
  · refine Ep.bind0 (isVertex_eq n es q hn) ?_
    have hgo := gOk_iff.2 (dOk_iff.1 h).1
    have e : (gOk n es && decide (0 ≤ q ∧ q < n)) = bOk n es d q := by unfold bOk; rw [hgo, h]
    rw [e]
    refine Ep.ite (fun h2 => ?_) (fun h2 => Ep.now (by rw [if_neg h2]))
    obtain ⟨m, rfl, g, _, hdl, _⟩ := bOk_all h2
    refine Ep.bind (implBurn g d hdl) ?_
    rintro _ rfl
    exact Ep.now (by rw [if_pos h2]; rfl)
  · have : bOk n es d q = false := by
      unfold bOk
      have : dOk n es d = false := by simpa using h
      rw [this]
      rfl
    rw [this]
    rfl
def obbO (n : Int) (es : List E) (d : List Int) (q : Int) : List Int × Bool := if bOk n es d q = true ∧ ((bfO n es d q).1.length : Int) = n then (burntL es (bfO n es d q).1, true) else ([], false)
theorem bfO_len {n : Int} {es : List E} {d : List Int} {q : Int} (h : bOk n es d q = true) : ((bfO n es d q).1.length : Int) ≤ n ∧ n ≤ 6 := by
  obtain ⟨m, rfl, g, _⟩ := bOk_all h
  rw [bfO_yes h]
  have := (burnF_ok (es := es) (d := rd d) g.hq).1.len g.hq
  have := g.n6
  simp only
  omega
theorem implObb (n : Int) (es : List E) (d : List Int) (q : Int) (hn : Wf .i64 n) (hel : es.length ≤ 1048576) (hl : d.length ≤ 1048576) : Ep (fun k => impl_OrientByBurning.f k n es d q) (· = obbO n es d q) := by
  simp only [impl_OrientByBurning.f, obbO]
  refine Ep.bind (implBF n es d q hn hl) ?_
  rintro _ rfl
  rw [bfO_snd]
  refine Ep.ite (fun h => ?_) (fun h => Ep.now (by rw [if_neg (fun x => h x.1)]))
  have hlen := bfO_len h
  refine Ep.ite (fun h2 => Ep.now (by rw [if_neg (fun x => by have := x.2; omega)])) (fun h2 => ?_)
  refine Ep.bind (implBurnt n es hel _ (by omega)) ?_
  rintro _ rfl
  exact Ep.now (by rw [if_pos ⟨h, by omega⟩])
end Go.Proofs.Ytgobnfeahffnaaa.Cf
end

section
namespace Go.Proofs.Ytgobnfeahffnaaa.Cf
set_option linter.unusedVariables false
set_option linter.unusedSimpArgs false
open Go.RowKit Go.Proofs.YtgobnfeahffnaaaW.PrintWords
/-- Each edge leads to a greater rank. -/
def Ranked (r : Int → Int) (es : List E) (o : List Int) : Prop := ∀ i, (h : i < es.length) → (h2 : i < o.length) → r (tailO es[i] o[i]) < r (headO es[i] o[i])
theorem freeF_edge {S : Nat → Bool} {v : Int} : ∀ {es : List E} {o : List Int}, freeF S v es o = false → ∃ i, ∃ (h : i < es.length) (h2 : i < o.length), headO es[i] o[i] = v ∧ S (tailO es[i] o[i]).toNat = true
  | [], _, k => by simp [freeF] at k
  | _ :: _, [], k => by simp [freeF] at k
  | e :: r, x :: o, k => by
    unfold freeF at k
    split at k
    · rename_i hc
      exact ⟨0, by simp, by simp, hc⟩
    · obtain ⟨i, h, h2, h3⟩ := freeF_edge (es := r) (o := o) k
      exact ⟨i + 1, by simpa using h, by simpa using h2, by simpa using h3⟩
/-- The vertex of a set where the rank is least. -/
theorem exists_min (r : Int → Int) (C : Nat → Bool) : ∀ (n : Nat), (∀ v, C v = true → v < n) → (∃ v, C v = true) → ∃ m : Nat, C m = true ∧ ∀ v : Nat, C v = true → r m ≤ r v
  | 0, h, hx => by obtain ⟨v, hv⟩ := hx; have := h v hv; omega
  | n + 1, h, hx => by
    by_cases hn : ∃ v, C v = true ∧ v < n
    · obtain ⟨m, hm, hmin⟩ := exists_min r (fun v => C v && decide (v < n)) n (fun v hv => by simp at hv; exact hv.2) (by obtain ⟨v, h1, h2⟩ := hn; exact ⟨v, by simp [h1, h2]⟩)
      have hm' : C m = true ∧ m < n := by simpa using hm
      by_cases hc : C n = true ∧ r n < r m
      · refine ⟨n, hc.1, fun v hv => ?_⟩
        by_cases e : v = n
        · subst e; exact Int.le_refl _
        · have := hmin v (by simp [hv]; have := h v hv; omega)
          omega
      · refine ⟨m, hm'.1, fun v hv => ?_⟩
        by_cases e : v = n
        · subst e
          apply Classical.byContradiction
          intro hl
          exact hc ⟨hv, by omega⟩
        · exact hmin v (by simp [hv]; have := h v hv; omega)
    · obtain ⟨v, hv⟩ := hx
      have hvn : v = n := by
        apply Classical.byContradiction
        intro hc
        exact hn ⟨v, hv, by have := h v hv; omega⟩
      subst hvn
      refine ⟨v, hv, fun u hu => ?_⟩
      have : u = v := by
        apply Classical.byContradiction
        intro hc
        exact hn ⟨u, hu, by have := h u hu; omega⟩
      rw [this]
      exact Int.le_refl _
theorem Ranked.acyclic {n : Nat} {es : List E} (hes : ∀ e ∈ es, EOk n e) {r : Int → Int} {o : List Int} (h : Ranked r es o) : ¬ Cyc n es o := by
  rintro ⟨C, hC, hf, hx⟩
  obtain ⟨m, hm, hmin⟩ := exists_min r C n hC hx
  obtain ⟨i, h1, h2, h3, h4⟩ := freeF_edge (hf m hm)
  have ht := tailO_ok (x := o[i]) (hes _ (List.getElem_mem h1))
  have hr := h i h1 h2
  have := hmin _ h4
  have e : (((tailO es[i] o[i]).toNat : Nat) : Int) = tailO es[i] o[i] := by omega
  rw [e] at this
  rw [h3] at hr
  omega
theorem acB_ranked {n : Nat} {es : List E} {r : Int → Int} {o : List Int} (ho : OrOk (n : Int) es o) (h : Ranked r es o) : acB (n : Int) es o = true := by
  have hes := ho.1.1
  unfold EsOk at hes
  have := acB_of (n := n) (es := es) (o := o) (orB_iff.2 ho) (r := true) (by simp; exact h.acyclic hes.2.2.2)
  exact this.symm
def cntT (v : Int) : List E → List Int → Int
  | e :: r, x :: o => (if tailO e x = v then 1 else 0) + cntT v r o
  | _, _ => 0
theorem cnt_val {n : Int} (v : Int) : ∀ (es : List E) (o : List Int), (∀ e ∈ es, EOk n e) → o.length = es.length → cntH v es o + cntT v es o = val es v
  | [], _, _, _ => by simp [cntH, cntT, val, sumE]
  | _ :: _, [], _, h => by simp at h
  | e :: r, x :: o, hes, hl => by
    have ih := cnt_val v r o (fun y hy => hes y (List.mem_cons_of_mem _ hy)) (by simpa using hl)
    have he := hes e List.mem_cons_self
    unfold EOk at he
    have h1 : val (e :: r) v = valE v e + val r v := sumE_cons _ _ _
    rw [h1]
    show (if headO e x = v then 1 else 0) + cntH v r o + ((if tailO e x = v then 1 else 0) + cntT v r o) = _
    unfold headO tailO valE
    by_cases hx : x = 0
    · simp only [if_pos hx]
      by_cases a : e.f0 = v
      · rw [if_neg (show ¬ e.f1 = v by omega), if_pos a, if_pos (.inl a)]; omega
      · by_cases b : e.f1 = v
        · rw [if_pos b, if_neg a, if_pos (.inr b)]; omega
        · rw [if_neg b, if_neg a, if_neg (by omega)]; omega
    · simp only [if_neg hx]
      by_cases a : e.f0 = v
      · rw [if_pos a, if_neg (show ¬ e.f1 = v by omega), if_pos (.inl a)]; omega
      · by_cases b : e.f1 = v
        · rw [if_neg a, if_pos b, if_pos (.inr b)]; omega
        · rw [if_neg a, if_neg b, if_neg (by omega)]; omega
theorem cntH_sum {n : Nat} : ∀ (es : List E) (o : List Int), (∀ e ∈ es, EOk (n : Int) e) → o.length = es.length → sumN n (fun i => cntH (i : Int) es o) = es.length
  | [], o, _, _ => by cases o <;> simp [cntH, sumN_zero]
  | _ :: _, [], _, h => by simp at h
  | e :: r, x :: o, hes, hl => by
    have ih := cntH_sum r o (fun y hy => hes y (List.mem_cons_of_mem _ hy)) (by simpa using hl)
    have hh := headO_ok (x := x) (hes e List.mem_cons_self)
    have h1 := sumN_add n (fun i => if headO e x = (i : Int) then (1 : Int) else 0) (fun i => cntH (i : Int) r o)
    have h2 : sumN n (fun i => if headO e x = (i : Int) then (1 : Int) else 0) = 1 := by
      refine (sumN_congr fun i _ => ?_).trans (sumN_one (n := n) (headO e x).toNat (by omega) 1)
      have : (headO e x = (i : Int)) ↔ i = (headO e x).toNat := by omega
      simp only [this]
    have h3 : sumN n (fun i => cntH (i : Int) (e :: r) (x :: o)) = sumN n (fun i => (if headO e x = (i : Int) then (1 : Int) else 0) + cntH (i : Int) r o) := rfl
    rw [h3, h1, h2, ih, List.length_cons]
    omega
theorem cntH_rev (v : Int) : ∀ (es : List E) (o : List Int), (∀ x ∈ o, x = 0 ∨ x = 1) → cntH v es (o.map fun x => if x = 0 then 1 else 0) = cntT v es o
  | [], _, _ => by simp [cntH, cntT]
  | _ :: _, [], _ => by simp [cntH, cntT]
  | e :: r, x :: o, ho => by
    have ih := cntH_rev v r o (fun y hy => ho y (List.mem_cons_of_mem _ hy))
    have hx := ho x List.mem_cons_self
    show (if headO e (if x = 0 then 1 else 0) = v then 1 else 0) + cntH v r (o.map fun x => if x = 0 then 1 else 0) = (if tailO e x = v then 1 else 0) + cntT v r o
    rw [ih]
    unfold headO tailO
    rcases hx with hx | hx <;> simp [hx]
/-- The divisor of an orientation. -/
theorem rd_divL {n : Nat} {es : List E} {o : List Int} (ho : OrOk (n : Int) es o) {v : Int} (h0 : 0 ≤ v) (h1 : v < n) : (divL (n : Int) es o).length = n ∧ rd (divL (n : Int) es o) v = cntH v es o - 1 := by
  have hg := ho.1.1
  unfold EsOk at hg
  have hr : ∀ w : Int, 0 ≤ w → w < n → rd (List.replicate ((n : Int)).toNat (-1 : Int)) w = -1 := by
    intro w w0 w1
    obtain ⟨k, rfl⟩ := Int.eq_ofNat_of_zero_le w0
    rw [rd_get (by simp; omega)]
    simp
  refine ⟨by unfold divL; rw [addHeads_len]; simp, ?_⟩
  unfold divL
  rw [addHeads_rd (n := n) v h0 h1 es o _ hg.2.2.2 (by simp) (fun w w0 w1 => by rw [hr w w0 w1]; omega), hr v h0 h1]
  omega
theorem divL_sum {n : Nat} {es : List E} {o : List Int} (ho : OrOk (n : Int) es o) : (divL (n : Int) es o).sum = es.length - n := by
  have hg := ho.1.1
  unfold EsOk at hg
  have hl : (divL (n : Int) es o).length = n := by unfold divL; rw [addHeads_len]; simp
  rw [sum_rd n _ hl, sumN_congr (g := fun i : Nat => cntH (i : Int) es o + (-1)) (fun i hi => by rw [(rd_divL ho (v := (i : Int)) (by omega) (by omega)).2]; omega), sumN_add, cntH_sum es o hg.2.2.2 ho.2.1, sumN_const]
  omega
/-- Edges to v from outside a set cost as much as the set takes there. -/
theorem cntH_out {n : Int} (S : Int → Bool) {v : Int} (hv : S v = true) : ∀ (es : List E) (o : List Int), (∀ e ∈ es, EOk n e) → (∀ i, (h : i < es.length) → (h2 : i < o.length) → headO es[i] o[i] = v → S (tailO es[i] o[i]) = false) → o.length = es.length → cntH v es o ≤ lap es (ind S) v
  | [], o, _, _, _ => by cases o <;> simp [cntH, lap_nil]
  | _ :: _, [], _, _, h => by simp at h
  | e :: r, x :: o, hes, hin, hl => by
    have ih := cntH_out S hv r o (fun y hy => hes y (List.mem_cons_of_mem _ hy)) (fun i h h2 h3 => by
      have := hin (i + 1) (by simpa using h) (by simpa using h2)
      simp only [List.getElem_cons_succ] at this
      exact this h3) (by simpa using hl)
    have he := hes e List.mem_cons_self
    unfold EOk at he
    have h0 := hin 0 (by simp) (by simp)
    simp only [List.getElem_cons_zero] at h0
    rw [lap_cons]
    show (if headO e x = v then 1 else 0) + cntH v r o ≤ _
    have key : (if headO e x = v then (1 : Int) else 0) ≤ lapE (ind S) v e := by
      unfold lapE ind
      by_cases a : e.f0 = v
      · rw [if_pos a, if_neg (show ¬ e.f1 = v by omega), a, hv]
        by_cases hh : headO e x = v
        · rw [if_pos hh]
          have := h0 hh
          unfold headO at hh
          unfold tailO at this
          by_cases hx : x = 0
          · rw [if_pos hx] at hh; omega
          · rw [if_neg hx] at this
            rw [this]
            simp
        · rw [if_neg hh]
          cases S e.f1 <;> simp
      · by_cases b : e.f1 = v
        · rw [if_neg a, if_pos b, b, hv]
          by_cases hh : headO e x = v
          · rw [if_pos hh]
            have := h0 hh
            unfold headO at hh
            unfold tailO at this
            by_cases hx : x = 0
            · rw [if_pos hx] at this
              rw [this]
              simp
            · rw [if_neg hx] at hh; exact absurd hh a
          · rw [if_neg hh]
            cases S e.f0 <;> simp
        · rw [if_neg a, if_neg b, if_neg]
          · simp
          · unfold headO
            split
            · exact b
            · exact a
    omega
/-- The divisor of an orientation with a rank has no effective one in its class. -/
theorem ranked_lost {n : Nat} {es : List E} {r : Int → Int} {o : List Int} (ho : OrOk (n : Int) es o) (h : Ranked r es o) {x s : Int → Int} (hs : ∀ v : Int, 0 ≤ v → v < n → x v = (cntH v es o - 1) - lap es s v) : ∃ v : Int, 0 ≤ v ∧ v < n ∧ x v < 0 := by
  have hg := ho.1.1
  unfold EsOk at hg
  obtain ⟨m, hm, hmax⟩ := exists_max (n := n) (by omega) s
  obtain ⟨u, hu, hmin⟩ := exists_min r (fun v => decide (v < n ∧ s v = s m)) n (fun v hv => by simp at hv; exact hv.1) ⟨m, by simp [hm]⟩
  have hu' : u < n ∧ s u = s m := by simpa using hu
  refine ⟨u, by omega, by omega, ?_⟩
  have h1 := lap_max hg.2.2.2 hmax hu'.2
  have h2 := cntH_out (fun y => decide (s y = s m)) (v := (u : Int)) (by simpa using hu'.2) es o hg.2.2.2 (fun i hi hi2 hh => by
    have hr := h i hi hi2
    have ht := tailO_ok (x := o[i]) (hg.2.2.2 _ (List.getElem_mem hi))
    rw [hh] at hr
    rw [decide_eq_false_iff_not]
    intro he
    have := hmin (tailO es[i] o[i]).toNat (by
      have e : (((tailO es[i] o[i]).toNat : Nat) : Int) = tailO es[i] o[i] := by omega
      rw [e]
      simp [he]
      omega)
    have e : (((tailO es[i] o[i]).toNat : Nat) : Int) = tailO es[i] o[i] := by omega
    rw [e] at this
    omega) ho.2.1
  rw [hs u (by omega) (by omega)]
  omega
end Go.Proofs.Ytgobnfeahffnaaa.Cf
end

section
namespace Go.Proofs.Ytgobnfeahffnaaa.Cf
set_option linter.unusedVariables false
set_option linter.unusedSimpArgs false
open Go.Proofs.YtgobnfeahffnaaaW.PrintWords
/-- Nothing at all is reduced, where all is joined. -/
theorem red_zero {n : Nat} {es : List E} (hj : Joined n es) {q : Int} (hq : 0 ≤ q ∧ q < n) {d : Int → Int} (hd : ∀ v : Int, 0 ≤ v → v < n → d v = 0) (hes : ∀ e ∈ es, EOk n e) : Red n es q d := by
  refine ⟨fun v h0 h1 _ => by rw [hd v h0 h1]; exact Int.le_refl _, fun S hS hx => ?_⟩
  obtain ⟨b, b0, b1, hb⟩ := hx
  have hc : Conn es q b := ((hj q hq.1 hq.2).symm).trans (hj b b0 b1)
  obtain ⟨u, w, hadj, hu, hw⟩ := exists_cut (S := fun x => S x = true) hc (by rw [hS]; simp) hb
  have hur := EsOk.adj hes hadj.symm
  refine ⟨u, hur.1, hur.2, hu, ?_⟩
  rw [hd u hur.1 hur.2]
  have hw' : S w = false := by simpa using hw
  have hnn : ∀ e ∈ es, 0 ≤ lapE (ind S) u e := by
    intro e _
    unfold lapE ind
    by_cases a : e.f0 = u
    · by_cases b : e.f1 = u
      · simp [a, b]
      · rw [if_pos a, if_neg b, a, hu]
        cases S e.f1 <;> simp
    · by_cases b : e.f1 = u
      · rw [if_neg a, if_pos b, b, hu]
        cases S e.f0 <;> simp
      · simp [a, b]
  obtain ⟨e, he, hx⟩ := hadj
  have h1 := sumE_term hnn he
  have h2 : 1 ≤ lapE (ind S) u e := by
    have hk := hes e he
    unfold EOk at hk
    unfold lapE ind
    rcases hx with ⟨x0, x1⟩ | ⟨x0, x1⟩
    · rw [if_pos x0, if_neg (show ¬ e.f1 = u by omega), x0, x1, hu, hw']; simp
    · rw [if_neg (show ¬ e.f0 = u by omega), if_pos x1, x0, x1, hu, hw']; simp
  unfold lap
  omega
/-- x is reduced (at 0), and of the class of k a. -/
def Mul (n : Nat) (es : List E) (a : List Int) (k : Int) (x : List Int) : Prop :=
  x.length = n ∧ Red n es 0 (rd x) ∧ ∃ s : Int → Int, ∀ v : Int, 0 ≤ v → v < n → rd x v = k * rd a v - lap es s v
theorem Mul.zero {n : Nat} {es : List E} {a : List Int} (hz : Red n es 0 (rd (List.replicate n 0))) : Mul n es a 0 (List.replicate n 0) :=
  ⟨by simp, hz, fun _ => 0, fun v _ _ => by rw [rd_replicate, lap_const (c := 0) (fun _ _ => ⟨rfl, rfl⟩)]; omega⟩
/-- Small lists as numbers. -/
def code : List Int → Int
  | [] => 0
  | a :: r => (a + 72) + 100 * code r
end Go.Proofs.Ytgobnfeahffnaaa.Cf
end

section
namespace Go.Proofs.Ytgobnfeahffnaaa.Cf
set_option linter.unusedVariables false
set_option linter.unusedSimpArgs false
open Go.RowKit Go.Proofs.YtgobnfeahffnaaaW.PrintWords
theorem idxF_in (x : Int) : ∀ (l : List Int) (i : Nat), x ∈ l → (i : Int) ≤ idxF x l i ∧ idxF x l i < i + l.length
  | [], _, h => by cases h
  | a :: r, i, h => by
    unfold idxF
    by_cases c : x = a
    · rw [if_pos c, List.length_cons]; omega
    · rw [if_neg c]
      have hr : x ∈ r := by
        rcases List.mem_cons.1 h with h | h
        · exact absurd h c
        · exact h
      have := idxF_in x r (i + 1) hr
      rw [List.length_cons]
      omega
theorem idxF_app (x : Int) (m : List Int) : ∀ (l : List Int) (i : Nat), x ∈ l → idxF x (l ++ m) i = idxF x l i
  | [], _, h => by cases h
  | a :: r, i, h => by
    show (if x = a then (i : Int) else idxF x (r ++ m) (i + 1)) = if x = a then (i : Int) else idxF x r (i + 1)
    by_cases c : x = a
    · rw [if_pos c, if_pos c]
    · rw [if_neg c, if_neg c]
      refine idxF_app x m r (i + 1) ?_
      rcases List.mem_cons.1 h with h | h
      · exact absurd h c
      · exact h
theorem idxF_new (x : Int) : ∀ (l : List Int) (i : Nat), x ∉ l → idxF x (l ++ [x]) i = i + l.length
  | [], i, _ => by simp [idxF]
  | a :: r, i, h => by
    have h' : x ≠ a ∧ x ∉ r := by simpa using h
    show (if x = a then (i : Int) else idxF x (r ++ [x]) (i + 1)) = _
    rw [if_neg h'.1, idxF_new x r (i + 1) h'.2, List.length_cons]
    omega
theorem idxF_inj {x y : Int} : ∀ (l : List Int) (i : Nat), x ∈ l → y ∈ l → idxF x l i = idxF y l i → x = y
  | [], _, h, _, _ => by cases h
  | a :: r, i, hx, hy, he => by
    have he' : (if x = a then (i : Int) else idxF x r (i + 1)) = if y = a then (i : Int) else idxF y r (i + 1) := he
    by_cases c : x = a
    · by_cases d : y = a
      · rw [c, d]
      · rw [if_pos c, if_neg d] at he'
        have hr : y ∈ r := by
          rcases List.mem_cons.1 hy with h | h
          · exact absurd h d
          · exact h
        have := idxF_in y r (i + 1) hr
        omega
    · have hxr : x ∈ r := by
        rcases List.mem_cons.1 hx with h | h
        · exact absurd h c
        · exact h
      by_cases d : y = a
      · rw [if_neg c, if_pos d] at he'
        have := idxF_in x r (i + 1) hxr
        omega
      · rw [if_neg c, if_neg d] at he'
        have hyr : y ∈ r := by
          rcases List.mem_cons.1 hy with h | h
          · exact absurd h d
          · exact h
        exact idxF_inj r (i + 1) hxr hyr he'
/-- What burns, but for q, has an edge from what has burnt before. -/
theorem Burn.before {n : Nat} {es : List E} {d : Int → Int} {q : Int} (hd : ∀ v : Int, 0 ≤ v → v < n → 0 ≤ d v) {b : List Int} (h : Burn n es d q b) : idxF q b 0 = 0 ∧ ∀ v ∈ b, v ≠ q → ∃ w ∈ b, Adj es v w ∧ idxF w b 0 < idxF v b 0 := by
  induction h with
  | start => exact ⟨by simp [idxF], fun v hv hq => absurd (List.mem_singleton.1 hv) hq⟩
  | @step b v hb h0 h1 hv hlt ih =>
    have hqb : q ∈ b := by
      have : ∀ {b : List Int}, Burn n es d q b → q ∈ b := by
        intro b hb
        induction hb with
        | start => simp
        | step _ _ _ _ _ ih => exact List.mem_append_left _ ih
      exact this hb
    refine ⟨by rw [idxF_app q [v] b 0 hqb]; exact ih.1, fun u hu huq => ?_⟩
    rcases List.mem_append.1 hu with hu | hu
    · obtain ⟨w, hw, ha, hi⟩ := ih.2 u hu huq
      exact ⟨w, List.mem_append_left _ hw, ha, by rw [idxF_app w [v] b 0 hw, idxF_app u [v] b 0 hu]; exact hi⟩
    · obtain rfl := List.mem_singleton.1 hu
      have hpos : 0 < burnSum es b u := by
        have := hd u h0 h1
        omega
      have hex : ∃ w ∈ b, 0 < mult es u w := by
        apply Classical.byContradiction
        intro hc
        have hz : burnSum es b u = 0 := by
          unfold burnSum
          have : b.map (mult es u) = b.map (fun _ => (0 : Int)) := by
            apply List.map_congr_left
            intro w hw
            have h2 := mult_nonneg es u w
            have h3 : ¬ 0 < mult es u w := fun y => hc ⟨w, hw, y⟩
            omega
          rw [this]
          exact sum_zero b
        omega
      obtain ⟨w, hw, hm⟩ := hex
      have hadj : Adj es u w := by
        apply Classical.byContradiction
        intro hc
        have : mult es u w = 0 := by
          apply sumE_zero
          intro e he
          unfold multE
          rw [if_neg]
          intro hx
          exact hc ⟨e, he, hx⟩
        omega
      refine ⟨w, List.mem_append_left _ hw, hadj, ?_⟩
      rw [idxF_app w [u] b 0 hw, idxF_new u b 0 hv]
      have := idxF_in w b 0 hw
      omega
/-- With no chips all burns. -/
theorem burn_all {n : Nat} {es : List E} {q : Int} (g : Gr n es q) {d : Int → Int} (hd : ∀ v : Int, 0 ≤ v → v < n → d v = 0) : Burn n es d q (burnF n es d q) ∧ (burnF n es d q).length = n ∧ ∀ v : Int, 0 ≤ v → v < n → v ∈ burnF n es d q := by
  have h := burnF_ok (es := es) (d := d) g.hq
  have hok := h.1.ok g.hq
  have hlen := h.1.len g.hq
  have hl : (burnF n es d q).length = n := by
    apply Classical.byContradiction
    intro hc
    obtain ⟨v, v0, v1, v2, v3⟩ := Red.burns g.hes g.hq h.1 (red_zero g.hj g.hq hd g.hes) (by omega)
    have := h.2 v v0 v1 v2
    omega
  refine ⟨h.1, hl, fun v v0 v1 => ?_⟩
  apply Classical.byContradiction
  intro hm
  have := nodup_len n (v :: burnF n es d q) (List.nodup_cons.2 ⟨hm, hok.1⟩) (fun x hx => by
    rcases List.mem_cons.1 hx with rfl | hx
    · exact ⟨v0, v1⟩
    · exact hok.2.1 x hx)
  simp at this
  omega
theorem burntL_get {es : List E} {b : List Int} {i : Nat} (h : i < es.length) (h2 : i < (burntL es b).length) : (burntL es b)[i] = if idxF es[i].f0 b 0 < idxF es[i].f1 b 0 then 0 else 1 := by simp [burntL]
theorem burnt_ok {n : Nat} {es : List E} {q : Int} (g : Gr n es q) (hg : GOk (n : Int) es) {d : Int → Int} (hd : ∀ v : Int, 0 ≤ v → v < n → d v = 0) :
    OrOk (n : Int) es (burntL es (burnF n es d q)) ∧ Ranked (fun v => idxF v (burnF n es d q) 0) es (burntL es (burnF n es d q)) ∧ (∀ i, (h : i < es.length) → (h2 : i < (burntL es (burnF n es d q)).length) → headO es[i] (burntL es (burnF n es d q))[i] ≠ q) ∧ ∀ v : Int, 0 ≤ v → v < n → v ≠ q → ∃ i, ∃ (h : i < es.length) (h2 : i < (burntL es (burnF n es d q)).length), headO es[i] (burntL es (burnF n es d q))[i] = v := by
  obtain ⟨hb, hl, hall⟩ := burn_all g hd
  have hbef := hb.before (fun v v0 v1 => by rw [hd v v0 v1]; exact Int.le_refl _)
  generalize burnF n es d q = b at hb hl hall hbef
  have hor : OrOk (n : Int) es (burntL es b) := by
    refine ⟨hg, by simp [burntL], fun x hx => ?_⟩
    unfold burntL at hx
    obtain ⟨e, _, rfl⟩ := List.mem_map.1 hx
    split
    · exact .inl rfl
    · exact .inr rfl
  have hrk : Ranked (fun v => idxF v b 0) es (burntL es b) := by
    intro i h h2
    have he := g.hes _ (List.getElem_mem h)
    unfold EOk at he
    have m0 := hall es[i].f0 (by omega) (by omega)
    have m1 := hall es[i].f1 (by omega) (by omega)
    rw [burntL_get h h2]
    unfold tailO headO
    by_cases c : idxF es[i].f0 b 0 < idxF es[i].f1 b 0
    · rw [if_pos c]
      simpa using c
    · rw [if_neg c]
      have hne : idxF es[i].f0 b 0 ≠ idxF es[i].f1 b 0 := fun e => by
        have := idxF_inj b 0 m0 m1 e
        omega
      simp
      omega
  refine ⟨hor, hrk, fun i h h2 e => ?_, fun v v0 v1 v2 => ?_⟩
  · have hr := hrk i h h2
    have ht := tailO_ok (x := (burntL es b)[i]) (g.hes _ (List.getElem_mem h))
    rw [e] at hr
    simp only [hbef.1] at hr
    have := idxF_in _ b 0 (hall _ ht.1 ht.2)
    omega
  · obtain ⟨w, hw, ⟨e, he, hx⟩, hi⟩ := hbef.2 v (hall v v0 v1) v2
    obtain ⟨i, h, rfl⟩ := List.getElem_of_mem he
    have h2 : i < (burntL es b).length := by simpa [burntL] using h
    refine ⟨i, h, h2, ?_⟩
    rw [burntL_get h h2]
    unfold headO
    rcases hx with ⟨x0, x1⟩ | ⟨x0, x1⟩
    · rw [x0, x1, if_neg (by omega)]
      first | done | simp
    · rw [x0, x1, if_pos hi]
      first | done | simp
/-- One source: q. -/
theorem srcO_burnt {n : Nat} {es : List E} {q : Int} {o : List Int} (ho : OrOk (n : Int) es o) (hq : 0 ≤ q ∧ q < n) (h1 : ∀ i, (h : i < es.length) → (h2 : i < o.length) → headO es[i] o[i] ≠ q) (h2 : ∀ v : Int, 0 ≤ v → v < n → v ≠ q → ∃ i, ∃ (h : i < es.length) (h2 : i < o.length), headO es[i] o[i] = v) : srcO (n : Int) es o = [q] := by
  have e : divO (n : Int) es o = (divL n es o, true) := by unfold divO; rw [if_pos (orB_iff.2 ho)]
  have hlen : (divL (n : Int) es o).length = n := by unfold divL; rw [addHeads_len]; simp
  have cz : ∀ (v : Int) (es : List E) (o : List Int), (∀ i, (h : i < es.length) → (h2 : i < o.length) → headO es[i] o[i] ≠ v) → cntH v es o = 0 := by
    intro v es
    induction es with
    | nil => intro o _; cases o <;> rfl
    | cons a r ih =>
      intro o h
      cases o with
      | nil => rfl
      | cons x o =>
        have h0 := h 0 (by simp) (by simp)
        simp only [List.getElem_cons_zero] at h0
        show (if headO a x = v then 1 else 0) + cntH v r o = 0
        rw [if_neg h0, ih o fun i hi hi2 => by
          have := h (i + 1) (by simpa using hi) (by simpa using hi2)
          simpa using this]
        rfl
  unfold srcO
  rw [e]
  simp only [if_true]
  obtain ⟨k, rfl⟩ := Int.eq_ofNat_of_zero_le hq.1
  have key : ∀ v : Nat, v < n → (rd (divL (n : Int) es o) (v : Int) = -1 ↔ v = k) := by
    intro v hv
    rw [(rd_divL ho (v := (v : Int)) (by omega) (by omega)).2]
    constructor
    · intro h
      apply Classical.byContradiction
      intro hc
      obtain ⟨i, hi, hi2, hh⟩ := h2 v (by omega) (by omega) (by omega)
      exact cntH_zero (v : Int) es o (by omega) i hi hi2 hh
    · intro h
      subst h
      rw [cz (v : Int) es o h1]
      rfl
  have hs : ∀ m : Nat, m ≤ n → srcs (divL (n : Int) es o) m = if k < m then [(k : Int)] else [] := by
    intro m
    induction m with
    | zero => intro _; simp [srcs]
    | succ m ih =>
      intro hm
      unfold srcs
      rw [ih (by omega)]
      by_cases c : m = k
      · subst c
        rw [if_neg (by omega), if_pos ((key m (by omega)).2 rfl), if_pos (by omega)]
        rfl
      · rw [if_neg (fun x => c ((key m (by omega)).1 x)), List.append_nil]
        by_cases c2 : k < m
        · rw [if_pos c2, if_pos (by omega)]
        · rw [if_neg c2, if_neg (by omega)]
  rw [hlen, hs n (Nat.le_refl _), if_pos (by omega)]
theorem flip_get {es : List E} {o : List Int} {q : Int} (hl : o.length = es.length) {i : Nat} (h : i < es.length) (h2 : i < (flipTo es o q es.length).length) : (flipTo es o q es.length)[i] = if es[i].f0 = q ∨ es[i].f1 = q then 1 - o[i]'(by omega) else o[i]'(by omega) := by
  have e : es.getD i ⟨0, 0⟩ = es[i] := by simp [List.getD, h]
  simp only [flipTo, List.getElem_map, List.getElem_range, e]
  rw [rd_get (show i < o.length by omega)]
  simp [h]
theorem flip_ok {n : Nat} {es : List E} {o : List Int} {q : Int} (ho : OrOk (n : Int) es o) : OrOk (n : Int) es (flipTo es o q es.length) := by
  refine ⟨ho.1, by rw [flipTo_len]; exact ho.2.1, fun x hx => ?_⟩
  obtain ⟨i, hi, rfl⟩ := List.getElem_of_mem hx
  have hlo : i < o.length := by rw [flipTo_len] at hi; exact hi
  have h := ho.2.2 _ (List.getElem_mem hlo)
  rw [flip_get ho.2.1 (by have := ho.2.1; omega) hi]
  split <;> omega
theorem flip_ranked {n : Nat} {es : List E} {o : List Int} {q : Int} (ho : OrOk (n : Int) es o) {r : Int → Int} (h : Ranked r es o) (hq : ∀ i, (h : i < es.length) → (h2 : i < o.length) → headO es[i] o[i] ≠ q) {M : Int} (hM : ∀ v : Int, 0 ≤ v → v < n → r v < M) : Ranked (fun v => if v = q then M else r v) es (flipTo es o q es.length) ∧ ∀ i, (h : i < es.length) → (h2 : i < (flipTo es o q es.length).length) → (es[i].f0 = q ∨ es[i].f1 = q) → headO es[i] (flipTo es o q es.length)[i] = q := by
  have hes := ho.1.1
  unfold EsOk at hes
  have hk : ∀ i, (h : i < es.length) → (h2 : i < (flipTo es o q es.length).length) → (es[i].f0 = q ∨ es[i].f1 = q) → headO es[i] (flipTo es o q es.length)[i] = q ∧ tailO es[i] (flipTo es o q es.length)[i] ≠ q := by
    intro i h h2 hx
    have hlo : i < o.length := by have := ho.2.1; omega
    have he := hes.2.2.2 _ (List.getElem_mem h)
    unfold EOk at he
    have h01 := ho.2.2 _ (List.getElem_mem hlo)
    have hne := hq i h hlo
    rw [flip_get ho.2.1 h h2, if_pos hx]
    unfold headO tailO at *
    rcases h01 with h0 | h1
    · rw [h0] at hne ⊢
      simp at hne ⊢
      omega
    · rw [h1] at hne ⊢
      simp at hne ⊢
      omega
  refine ⟨fun i hi h2 => ?_, fun i hi h2 hx => (hk i hi h2 hx).1⟩
  have hlo : i < o.length := by have := ho.2.1; omega
  have he := hes.2.2.2 _ (List.getElem_mem hi)
  by_cases hx : es[i].f0 = q ∨ es[i].f1 = q
  · obtain ⟨h3, h4⟩ := hk i hi h2 hx
    have ht := tailO_ok (x := (flipTo es o q es.length)[i]) he
    simp only [h3, if_true, if_neg h4]
    exact hM _ ht.1 ht.2
  · have hr := h i hi hlo
    have e : (flipTo es o q es.length)[i] = o[i] := by rw [flip_get ho.2.1 hi h2, if_neg hx]
    rw [e]
    have hh : headO es[i] o[i] ≠ q ∧ tailO es[i] o[i] ≠ q := by
      unfold headO tailO
      constructor <;> split <;> omega
    simp only [if_neg hh.1, if_neg hh.2]
    exact hr
end Go.Proofs.Ytgobnfeahffnaaa.Cf
end

section
namespace Go.Proofs.Ytgobnfeahffnaaa.Cf
set_option linter.unusedVariables false
set_option linter.unusedSimpArgs false
open Go.RowKit Go.Proofs.YtgobnfeahffnaaaW.PrintWords Go.Proofs.Ytgobnfeahffnaaa.P
def canL (n : Nat) (es : List E) : List Int := repL n (fun v => val es v - 2)
theorem implCan_l0 {n : Nat} (hn : n ≤ 6) {es : List E} (hel : es.length ≤ 12) : ∀ (d i : Nat), i + d = n → Ep (fun k => impl_CanonicalOf.l0 k ((canL n es).take i) (i : Int) (n : Int) es) (· = canL n es) := by
  intro d
  induction d with
  | zero =>
    intro i hi
    refine Ep.up ?_
    simp only [impl_CanonicalOf.l0]
    refine Ep.neg (by omega) (Ep.now ?_)
    rw [List.take_of_length_le (by rw [canL, repL_len]; omega)]
  | succ d ih =>
    intro i hi
    refine Ep.up ?_
    simp only [impl_CanonicalOf.l0]
    refine Ep.pos (by omega) (Ep.bind (implValence _ es _ (by omega)) ?_)
    rintro _ rfl
    refine Ep.pos (by rw [List.length_take]; omega) ?_
    have h1 := val_nonneg es (i : Int)
    have h2 := val_le es (i : Int)
    rw [valG_in ⟨by omega, by omega⟩, wrap_succ (by omega), wrap_id (by omega) (by omega)]
    have e := repL_take (n := n) (fun v => val es v - 2) (show i < n by omega)
    have h := ih (i + 1) (by omega)
    unfold canL at h ⊢
    rw [e] at h
    exact h
theorem implCan {n : Nat} {es : List E} (hg : GOk (n : Int) es) : Ep (fun k => impl_CanonicalOf.f k (n : Int) es) (· = canL n es) := by
  have hG := hg.1
  unfold EsOk at hG
  simp only [impl_CanonicalOf.f]
  refine Ep.bind0 (implGraph _ _) ?_
  rw [gOk_iff.2 hg]
  refine Ep.pos rfl ?_
  simpa using implCan_l0 (n := n) (by omega) hG.2.2.1 n 0 (by omega)
theorem implGenus {n : Nat} {es : List E} (hg : GOk (n : Int) es) : impl_GenusOf.f (n : Int) es = some ((es.length : Int) - n + 1) := by
  have hG := hg.1
  unfold EsOk at hG
  unfold impl_GenusOf.f
  rw [implGraph, gOk_iff.2 hg]
  simp only [Option.bind_some, if_true]
  rw [wrap_id (x := (es.length : Int) - n) (by omega) (by omega), wrap_id (by omega) (by omega)]
theorem implIsWin {n : Nat} {es : List E} {d : List Int} (hd : d.length ≤ 1048576) (hm : Mod d) : Ep (fun k => impl_IsWinnable.f k (n : Int) es d) (· = (dOk n es d && winB n es d)) := by
  simp only [impl_IsWinnable.f]
  refine Ep.bind (implDiv _ es d hd) ?_
  rintro _ rfl
  refine Ep.ite (fun h => ?_) (fun h => Ep.now ?_)
  · obtain ⟨m, hm', g', h1, h6, hdl, hb, _⟩ := dOk_all h
    obtain rfl : n = m := by omega
    refine Ep.bind (implWin (g' 0 (by omega) (by omega)) hdl (hb.mono (by omega)) hm) ?_
    rintro _ rfl
    exact Ep.now (by rw [h]; rfl)
  · have : dOk (n : Int) es d = false := by simpa using h
    rw [this]; rfl
/-- The divisor of an orientation with a rank is not winnable. -/
theorem ranked_win {n : Nat} {es : List E} {r : Int → Int} {o : List Int} (ho : OrOk (n : Int) es o) (h : Ranked r es o) : winB n es (divL (n : Int) es o) = false := by
  have hg := ho.1
  have hG := hg.1
  unfold EsOk at hG
  have g : Gr n es 0 := Gr.of hg ⟨by omega, by omega⟩
  have hl : (divL (n : Int) es o).length = n := (rd_divL ho (v := 0) (by omega) (by omega)).1
  have hb : Bd (divL (n : Int) es o) 1000 := fun v v0 v1 => by
    have h1 := (rd_divL ho (v := v) v0 (by omega)).2
    have h2 := cntH_nonneg v es o
    have h3 := cnt_val v es o hG.2.2.2 ho.2.1
    have h4 := val_le es v
    have h5 : 0 ≤ cntT v es o := by
      have : ∀ (es : List E) (o : List Int), 0 ≤ cntT v es o := by
        intro es
        induction es with
        | nil => intro o; simp [cntT]
        | cons e r ih =>
          intro o
          cases o with
          | nil => simp [cntT]
          | cons x o =>
            have := ih o
            show 0 ≤ (if tailO e x = v then (1 : Int) else 0) + cntT v r o
            split <;> omega
      exact this es o
    omega
  obtain ⟨_, _, hr⟩ := reduceS_ok g hl hb
  obtain ⟨v, v0, v1, hv⟩ := ranked_lost ho h (x := rd (reduceS n es 0 (divL (n : Int) es o)).1) (s := rd (reduceS n es 0 (divL (n : Int) es o)).2) (fun v v0 v1 => by rw [hr.2.2 v v0 v1, (rd_divL ho v0 v1).2])
  unfold winB
  rw [decide_eq_false_iff_not]
  by_cases e : v = 0
  · subst e
    omega
  · have := (hr.1.lt g.hes v0 v1 e).1
    omega
end Go.Proofs.Ytgobnfeahffnaaa.Cf
end

section
namespace Go.Proofs.Ytgobnfeahffnaaa.Cf
set_option linter.unusedVariables false
set_option linter.unusedSimpArgs false
theorem leE_trans {a b c : E} (h : leE a b) (k : leE b c) : leE a c := by
  unfold leE at *
  omega
theorem sorted_of_pw {es : List E} (h : es.Pairwise leE) : Sorted es := fun i hi => by
  rw [List.pairwise_iff_getElem] at h
  exact h i (i + 1) (by omega) hi (by omega)
theorem pw_of_sorted : ∀ {es : List E}, Sorted es → es.Pairwise leE
  | [], _ => List.Pairwise.nil
  | a :: r, h => by
    have hr : Sorted r := fun i hi => h (i + 1) (by simpa using hi)
    have ih := pw_of_sorted hr
    refine List.Pairwise.cons (fun b hb => ?_) ih
    cases r with
    | nil => cases hb
    | cons c s =>
      have h0 : leE a c := h 0 (by simp)
      rcases List.mem_cons.1 hb with rfl | hb
      · exact h0
      · exact leE_trans h0 (List.rel_of_pairwise_cons ih hb)
/-- Ahead of the first one that is greater. -/
def insE (e : E) : List E → List E
  | [] => [e]
  | x :: r => if x.f0 > e.f0 ∨ (x.f0 = e.f0 ∧ x.f1 > e.f1) then e :: x :: r else x :: insE e r
theorem insE_mem {e y : E} : ∀ {l : List E}, y ∈ insE e l ↔ y = e ∨ y ∈ l
  | [] => by simp [insE]
  | x :: r => by
    unfold insE
    split
    · simp
    · rw [List.mem_cons, insE_mem (l := r), List.mem_cons]
      constructor
      · rintro (h | h | h)
        · exact .inr (.inl h)
        · exact .inl h
        · exact .inr (.inr h)
      · rintro (h | h | h)
        · exact .inr (.inl h)
        · exact .inl h
        · exact .inr (.inr h)
theorem insE_len (e : E) : ∀ (l : List E), (insE e l).length = l.length + 1
  | [] => rfl
  | x :: r => by
    unfold insE
    split
    · simp
    · simp [insE_len e r]
theorem insE_pw {e : E} : ∀ {l : List E}, l.Pairwise leE → (insE e l).Pairwise leE
  | [], _ => by simp [insE]
  | x :: r, h => by
    unfold insE
    have hx := List.pairwise_cons.1 h
    split
    · rename_i hc
      refine List.Pairwise.cons (fun b hb => ?_) h
      have h1 : leE e x := by unfold leE; omega
      rcases List.mem_cons.1 hb with rfl | hb
      · exact h1
      · exact leE_trans h1 (hx.1 b hb)
    · rename_i hc
      refine List.Pairwise.cons (fun b hb => ?_) (insE_pw hx.2)
      rcases insE_mem.1 hb with rfl | hb
      · unfold leE; omega
      · exact hx.1 b hb
theorem gOk_ins {n : Int} {es : List E} (h : GOk n es) (hl : es.length ≠ 12) {e : E} (he : EOk n e) : GOk n (insE e es) := by
  obtain ⟨⟨h1, h2, h3, h4⟩, h5, h6⟩ := h
  refine ⟨⟨h1, h2, by rw [insE_len]; omega, fun x hx => ?_⟩, sorted_of_pw (insE_pw (pw_of_sorted h5)), fun v h0 h1 => (h6 v h0 h1).sub fun x hx => insE_mem.2 (.inr hx)⟩
  rcases insE_mem.1 hx with rfl | hx
  · exact he
  · exact h4 x hx
def hRow (t : List E) (n a : Nat) : List E := (List.range n).flatMap fun b => if a < b then List.replicate (mult t a b).toNat ⟨a, b⟩ else []
def hEdges (n : Nat) (t : List E) : List E := (List.range n).flatMap (hRow t n)
theorem hRow_mem {t : List E} {n a : Nat} {e : E} : e ∈ hRow t n a ↔ ∃ b, b < n ∧ a < b ∧ 0 < mult t a b ∧ e = ⟨a, b⟩ := by
  unfold hRow
  rw [List.mem_flatMap]
  constructor
  · rintro ⟨b, hb, he⟩
    split at he
    · rename_i hab
      obtain ⟨h1, h2⟩ := List.mem_replicate.1 he
      exact ⟨b, List.mem_range.1 hb, hab, by omega, h2⟩
    · cases he
  · rintro ⟨b, hb, hab, hm, rfl⟩
    refine ⟨b, List.mem_range.2 hb, ?_⟩
    rw [if_pos hab]
    exact List.mem_replicate.2 ⟨by omega, rfl⟩
theorem hEdges_mem {t : List E} {n : Nat} {e : E} : e ∈ hEdges n t ↔ ∃ a b : Nat, a < b ∧ b < n ∧ 0 < mult t a b ∧ e = ⟨a, b⟩ := by
  unfold hEdges
  rw [List.mem_flatMap]
  constructor
  · rintro ⟨a, _, h⟩
    obtain ⟨b, h1, h2, h3, h4⟩ := hRow_mem.1 h
    exact ⟨a, b, h2, h1, h3, h4⟩
  · rintro ⟨a, b, h1, h2, h3, h4⟩
    exact ⟨a, List.mem_range.2 (by omega), hRow_mem.2 ⟨b, h2, h1, h3, h4⟩⟩
theorem hEdges_ok {t : List E} {n : Nat} : ∀ e ∈ hEdges n t, EOk (n : Int) e := by
  intro e he
  obtain ⟨a, b, h1, h2, _, rfl⟩ := hEdges_mem.1 he
  unfold EOk
  simp only
  omega
theorem hEdges_pw (n : Nat) (t : List E) : (hEdges n t).Pairwise leE := by
  unfold hEdges
  rw [List.pairwise_flatMap]
  refine ⟨fun a _ => ?_, ?_⟩
  · unfold hRow
    rw [List.pairwise_flatMap]
    refine ⟨fun b _ => ?_, ?_⟩
    · split
      · refine List.pairwise_replicate.2 (.inr ?_)
        unfold leE
        simp
      · exact List.Pairwise.nil
    · refine List.pairwise_lt_range.imp ?_
      intro b c hbc x hx y hy
      split at hx
      · split at hy
        · rw [List.eq_of_mem_replicate hx, List.eq_of_mem_replicate hy]
          exact .inr ⟨rfl, by show (b : Int) ≤ (c : Int); omega⟩
        · cases hy
      · cases hx
  · refine List.pairwise_lt_range.imp ?_
    intro a c hac x hx y hy
    obtain ⟨_, _, _, _, rfl⟩ := hRow_mem.1 hx
    obtain ⟨_, _, _, _, rfl⟩ := hRow_mem.1 hy
    unfold leE
    simp only
    omega
theorem len_flatMap (f : Nat → List E) : ∀ n : Nat, (((List.range n).flatMap f).length : Int) = sumN n (fun i => ((f i).length : Int))
  | 0 => rfl
  | n + 1 => by
    rw [List.range_succ, List.flatMap_append, List.length_append]
    simp only [sumN, List.flatMap_cons, List.flatMap_nil, List.append_nil]
    rw [← len_flatMap f n]
    omega
theorem hEdges_len {n : Nat} : ∀ {t : List E}, (∀ e ∈ t, EOk (n : Int) e) → (hEdges n t).length = t.length := by
  have key : ∀ t : List E, ((hEdges n t).length : Int) = sumN n (fun a => sumN n (fun b => if a < b then mult t (a : Int) (b : Int) else 0)) := by
    intro t
    unfold hEdges
    rw [len_flatMap]
    apply sumN_congr
    intro a _
    unfold hRow
    rw [len_flatMap]
    apply sumN_congr
    intro b _
    have := mult_nonneg t (a : Int) (b : Int)
    split
    · rw [List.length_replicate]; omega
    · rfl
  intro t
  induction t with
  | nil =>
    intro _
    have := key []
    have hz : sumN n (fun a => sumN n (fun b => if a < b then mult [] (a : Int) (b : Int) else 0)) = 0 := by
      refine (sumN_congr (g := fun _ => 0) fun a _ => ?_).trans (sumN_zero n)
      refine (sumN_congr (g := fun _ => 0) fun b _ => ?_).trans (sumN_zero n)
      split <;> rfl
    rw [hz] at this
    simp only [List.length_nil]
    omega
  | cons e r ih =>
    intro h
    have ih := ih fun x hx => h x (List.mem_cons_of_mem _ hx)
    have he := h e List.mem_cons_self
    unfold EOk at he
    have k1 := key (e :: r)
    have k2 := key r
    have hs : sumN n (fun a => sumN n (fun b => if a < b then mult (e :: r) (a : Int) (b : Int) else 0)) = 1 + sumN n (fun a => sumN n (fun b => if a < b then mult r (a : Int) (b : Int) else 0)) := by
      have h1 : sumN n (fun a => sumN n (fun b => if a = e.f0.toNat ∧ b = e.f1.toNat then (1 : Int) else 0)) = 1 := by
        rw [sumN_congr (g := fun a => if a = e.f0.toNat then (1 : Int) else 0) (fun a _ => ?_), sumN_one e.f0.toNat (by omega)]
        by_cases ha : a = e.f0.toNat
        · rw [if_pos ha, sumN_congr (g := fun b => if b = e.f1.toNat then (1 : Int) else 0) (fun b _ => by simp [ha]), sumN_one e.f1.toNat (by omega)]
        · rw [if_neg ha, sumN_congr (g := fun _ => (0 : Int)) (fun b _ => by rw [if_neg (fun x => ha x.1)]), sumN_zero]
      rw [← h1, ← sumN_add]
      apply sumN_congr
      intro a _
      rw [← sumN_add]
      apply sumN_congr
      intro b _
      have hm : mult (e :: r) (a : Int) (b : Int) = multE (a : Int) (b : Int) e + mult r (a : Int) (b : Int) := sumE_cons _ _ _
      rw [hm]
      unfold multE
      by_cases hab : a < b
      · rw [if_pos hab, if_pos hab]
        by_cases hc : a = e.f0.toNat ∧ b = e.f1.toNat
        · rw [if_pos hc, if_pos (.inl ⟨by omega, by omega⟩)]
        · rw [if_neg hc, if_neg (by omega)]
      · rw [if_neg hab, if_neg hab, if_neg (by omega)]
        rfl
    rw [List.length_cons]
    omega
/-- The edges (a, 1), (b, 2), .. of a tree, each from a lesser vertex. -/
structure TreeE (v : Nat) (t : List E) : Prop where
  ok : ∀ e ∈ t, EOk (v : Int) e
  len : t.length + 1 = v
  up : ∀ w : Nat, 0 < w → w < v → ∃ a : Nat, a < w ∧ (⟨(a : Int), (w : Int)⟩ : E) ∈ t
theorem TreeE.start : TreeE 1 [] := ⟨fun e he => (by cases he), rfl, fun w h0 h1 => by omega⟩
theorem TreeE.next {v : Nat} {t : List E} (h : TreeE v t) {a : Int} (h0 : 0 ≤ a) (h1 : a < v) : TreeE (v + 1) (t ++ [⟨a, v⟩]) where
  ok := fun e he => by
    rcases List.mem_append.1 he with he | he
    · have := h.ok e he
      unfold EOk at *
      omega
    · rw [List.mem_singleton.1 he]
      unfold EOk
      simp only
      omega
  len := by rw [List.length_append]; simp; exact h.len
  up := fun w w0 w1 => by
    by_cases c : w < v
    · obtain ⟨b, hb, hm⟩ := h.up w w0 c
      exact ⟨b, hb, List.mem_append_left _ hm⟩
    · obtain rfl : w = v := by omega
      refine ⟨a.toNat, by omega, List.mem_append_right _ ?_⟩
      have e : ((a.toNat : Nat) : Int) = a := by omega
      rw [e]
      exact List.mem_singleton.2 rfl
theorem TreeE.gOk {n : Nat} {t : List E} (h : TreeE n t) (hn : n ≤ 6) : GOk (n : Int) (hEdges n t) := by
  have hl := hEdges_len h.ok
  have hlen := h.len
  refine ⟨⟨by omega, by omega, by omega, hEdges_ok⟩, sorted_of_pw (hEdges_pw n t), ?_⟩
  have key : ∀ w : Nat, w < n → Conn (hEdges n t) 0 (w : Int) := by
    intro w
    induction w using Nat.strongRecOn with
    | _ w ih =>
      intro hw
      by_cases w0 : w = 0
      · subst w0; exact .refl
      · obtain ⟨a, ha, hm⟩ := h.up w (by omega) hw
        have hc := ih a ha (by omega)
        have hmem : (⟨(a : Int), (w : Int)⟩ : E) ∈ hEdges n t := by
          refine hEdges_mem.2 ⟨a, w, ha, hw, ?_, rfl⟩
          have h1 := sumE_term (es := t) (f := multE (a : Int) (w : Int)) (fun e _ => by unfold multE; split <;> omega) hm
          have h2 : multE (a : Int) (w : Int) ⟨(a : Int), (w : Int)⟩ = 1 := by unfold multE; simp
          unfold mult
          omega
        exact hc.tail ⟨_, hmem, .inl ⟨rfl, rfl⟩⟩
  intro v h0 h1
  obtain ⟨w, rfl⟩ := Int.eq_ofNat_of_zero_le h0
  exact key w (by omega)
end Go.Proofs.Ytgobnfeahffnaaa.Cf
end

section
namespace Go.Proofs.Ytgobnfeahffnaaa.P
open Go.RowKit Go.Proofs.YtgobnfeahffnaaaW.PrintWords Go.Proofs.YtgobnfeahffnaaaW.PrintLast Go.Proofs.YtgobnfeahffnaaaW.PrintMore
attribute [local go_sem] max2_int min2_int max_two min_two max_three min_three max_four min_four
set_option linter.unusedVariables false
set_option linter.unusedSimpArgs false
def spec_l10Draw.l0 : Nat → Int → List Int → Int → List Int → Int → Int → Int → List (S83) → Option (List Int × Int × Int)
 | 0, _, _, _, _, _, _, _, _ => none
 | k + 1, x2, x7, x8, x1000, x1001, x1002, x102000, x102001 => if x8 < x102000 then ((spec_l01Below.f x1000 x1001 x1002 7).bind fun bt105 => (if x7.length < 17592186044416 then (spec_l10Draw.l0 k x2 (x7 ++ [bt105.1]) (wrap64 (x8 + 1)) x1000 bt105.2.1 bt105.2.2 x102000 x102001) else (none))) else (if x2 ≥ 0 then (if x2 < (x7.length : Int) then (if 0 ≤ x2 then (some ((x7.set (x2 : Int).toNat 0), x1001, x1002)) else (none)) else (some (x7, x1001, x1002))) else (some (x7, x1001, x1002)))
def spec_l10Draw.f (k : Nat) (s0_0 : List Int) (s0_1 : Int) (s0_2 : Int) (a1_0 : Int) (l1_1 : List (S83)) (a2 : Int) : Option (List Int × Int × Int) := spec_l10Draw.l0 k a2 (([] : List Int)) 0 s0_0 s0_1 s0_2 a1_0 l1_1
theorem spec_l10Draw.mono_l : ∀ k, (∀ y0 y1 y2 y3 y4 y5 y6 y7, LeO (spec_l10Draw.l0 k y0 y1 y2 y3 y4 y5 y6 y7) (spec_l10Draw.l0 (k + 1) y0 y1 y2 y3 y4 y5 y6 y7))
 | 0 => fun _ _ _ _ _ _ _ _ r h => by simp [spec_l10Draw.l0] at h
 | k + 1 => by
  have ih0 := spec_l10Draw.mono_l k
  ·intro y0 y1 y2 y3 y4 y5 y6 y7
   unfold spec_l10Draw.l0
   exact zm0
theorem spec_l10Draw.mono : ∀ a0 a1 a2 a3 a4 a5 k, LeO (spec_l10Draw.f k a0 a1 a2 a3 a4 a5) (spec_l10Draw.f (k + 1) a0 a1 a2 a3 a4 a5) := by
 intro a0 a1 a2 a3 a4 a5 k; have ih0 := spec_l10Draw.mono_l k; unfold spec_l10Draw.f; exact zm0
def spec_MakePile.f (k : Nat) (l0 : List Int) (a1 : Int) (a2_0 : Int) (l2_1 : List (S83)) (a3 : Int) : Option (List Int) := (spec_l21New.f k l0 a1).bind fun bt102 => ((spec_l10Draw.f k bt102.1 bt102.2.1 bt102.2.2 a2_0 l2_1 a3).bind fun bt106 => (some bt106.1))
theorem spec_MakePile.mono : ∀ a0 a1 a2 a3 a4 k, LeO (spec_MakePile.f k a0 a1 a2 a3 a4) (spec_MakePile.f (k + 1) a0 a1 a2 a3 a4) := by
 intro a0 a1 a2 a3 a4 k; unfold spec_MakePile.f; repeat' first | (with_reducible apply spec_l10Draw.mono) | (with_reducible apply spec_l21New.mono) | (with_reducible exact LeO.refl _) | (with_reducible exact LeO.none _) | (with_reducible refine LeO.ite ?_ ?_) | (with_reducible refine LeO.bind ?_ (fun _ => ?_)) | apply spec_l10Draw.mono | apply spec_l21New.mono | exact LeO.none _ | refine LeO.ite ?_ ?_ | refine LeO.bind ?_ (fun _ => ?_)
end Go.Proofs.Ytgobnfeahffnaaa.P
end

section
namespace Go.Proofs.Ytgobnfeahffnaaa.Cf
set_option linter.unusedVariables false
set_option linter.unusedSimpArgs false
open Go.RowKit Go.Proofs.YtgobnfeahffnaaaW.PrintWords Go.Proofs.YtgobnfeahffnaaaW.PrintMore Go.Proofs.Ytgobnfeahffnaaa.P
/-- Where a code is read. -/
def Cur (b : List Int) (i : Int) : Prop := 0 ≤ i ∧ i ≤ b.length
theorem and255 (y : Int) : 0 ≤ Go.bits .and .i64 y 255 ∧ Go.bits .and .i64 y 255 ≤ 255 := by
  have h : ((BitVec.ofInt 64 y) &&& (BitVec.ofInt 64 255)).toNat ≤ 255 := by
    rw [BitVec.toNat_and]
    exact Nat.le_trans Nat.and_le_right (by decide)
  have e : Go.bits .and .i64 y 255 = (((BitVec.ofInt 64 y) &&& (BitVec.ofInt 64 255)).toNat : Int) := by
    show Go.IntKind.wrap .i64 _ = _
    have e0 : ∀ m : Nat, m ≤ 255 → Go.IntKind.wrap .i64 (m : Int) = m := by
      intro m hm
      exact (wraps_i64 m (by omega) (by omega))
    exact e0 _ h
  rw [e]
  omega
theorem byte_ok {b : List Int} (hb : b.length ≤ 1048576) {i : Int} (h : Int) (hc : Cur b i) : ∃ x i' h', spec_l01Byte.f b i h = some (x, i', h') ∧ 0 ≤ x ∧ x ≤ 255 ∧ Cur b i' := by
  unfold Cur at *
  unfold spec_l01Byte.f
  split
  · rw [if_pos hc.1]
    exact ⟨_, _, _, rfl, (and255 _).1, (and255 _).2, by rw [wrap_id (by omega) (by omega)]; omega⟩
  · exact ⟨_, _, _, rfl, (and255 _).1, (and255 _).2, hc⟩
theorem below_ok {b : List Int} (hb : b.length ≤ 1048576) {i : Int} (h : Int) (hc : Cur b i) {a : Int} (h0 : 1 ≤ a) (h1 : a ≤ 256) : ∃ x i' h', spec_l01Below.f b i h a = some (x, i', h') ∧ 0 ≤ x ∧ x < a ∧ Cur b i' := by
  obtain ⟨x, i', h', e, x0, x1, hc'⟩ := byte_ok hb h hc
  refine ⟨Int.tmod x a, i', h', ?_, Int.tmod_nonneg _ x0, Int.tmod_lt_of_pos _ (by omega), hc'⟩
  unfold spec_l01Below.f
  rw [if_neg (by omega), if_pos h1, e]
  show (if a = 0 then none else some _) = _
  rw [if_neg (by omega)]
theorem cur_l0 (b : List Int) (hb : b.length ≤ 1048576) : ∀ (d i : Nat) (h : Int), i + d = b.length → Ep (fun k => spec_l01New.l0 k b h (i : Int)) (fun r => r.1 = b ∧ Cur b r.2.1) := by
  intro d
  induction d with
  | zero =>
    intro i h hi
    refine Ep.up ?_
    simp only [spec_l01New.l0]
    exact Ep.neg (by omega) (Ep.now ⟨rfl, by unfold Cur; simp⟩)
  | succ d ih =>
    intro i h hi
    refine Ep.up ?_
    simp only [spec_l01New.l0]
    refine Ep.pos (by omega) (Ep.ite (fun _ => Ep.pos (by omega) ?_) (fun _ => Ep.now ⟨rfl, by unfold Cur; simp⟩))
    rw [wrap_succ (by omega)]
    exact ih (i + 1) _ (by omega)
theorem cur_new (b : List Int) (hb : b.length ≤ 1048576) : Ep (fun k => spec_l01New.f k b) (fun r => r.1 = b ∧ Cur b r.2.1) := by
  simp only [spec_l01New.f]
  exact cur_l0 b hb b.length 0 _ (by omega)
theorem cur2_l0 (b : List Int) (hb : b.length ≤ 1048576) (n : Nat) (hn : n ≤ 1000) : ∀ (d j : Nat) (i h : Int), j + d = n → Cur b i → Ep (fun k => spec_l21New.l0 k (n : Int) (j : Int) b i h) (fun r => r.1 = b ∧ Cur b r.2.1) := by
  intro d
  induction d with
  | zero =>
    intro j i h hj hc
    refine Ep.up ?_
    simp only [spec_l21New.l0]
    exact Ep.neg (by omega) (Ep.now ⟨rfl, hc⟩)
  | succ d ih =>
    intro j i h hj hc
    obtain ⟨x, i', h', e, _, _, hc'⟩ := byte_ok hb h hc
    refine Ep.up ?_
    simp only [spec_l21New.l0]
    refine Ep.pos (by omega) (Ep.bind0 e ?_)
    rw [wrap_succ (by omega)]
    exact ih (j + 1) i' h' (by omega) hc'
theorem cur2_new (b : List Int) (hb : b.length ≤ 1048576) (n : Nat) (hn : n ≤ 1000) : Ep (fun k => spec_l21New.f k b (n : Int)) (fun r => r.1 = b ∧ Cur b r.2.1) := by
  simp only [spec_l21New.f]
  refine Ep.bind (cur_new b hb) ?_
  rintro ⟨b', i, h⟩ ⟨rfl, hc⟩
  exact cur2_l0 _ hb n hn n 0 i h (by omega) hc
theorem makeNum (b : List Int) (hb : b.length ≤ 1048576) (n : Nat) (hn : n ≤ 1000) : Ep (fun k => spec_MakeNum.f k b (n : Int)) (fun r => 0 ≤ r ∧ r ≤ 65535) := by
  simp only [spec_MakeNum.f]
  refine Ep.bind (cur2_new b hb n hn) ?_
  rintro ⟨b', i, h⟩ ⟨rfl, hc⟩
  obtain ⟨x, i1, h1, e1, x0, x1, hc1⟩ := byte_ok hb h hc
  refine Ep.bind0 e1 ?_
  obtain ⟨y, i2, h2, e2, y0, y1, hc2⟩ := byte_ok hb h1 hc1
  refine Ep.bind0 e2 (Ep.now ?_)
  dsimp only
  rw [wrap_id (x := x * 256) (by omega) (by omega), wrap_id (by omega) (by omega)]
  omega
theorem addE_true (es : List E) (hel : es.length ≤ 12) (n : Int) (e : E) : ∀ (d i : Nat) (acc : List E), i + d = es.length → acc.length ≤ i + 1 → Ep (fun k => spec_AddEdge.l0 k true es (es.length : Int) (i : Int) e.f0 e.f1 n acc) (· = (n, acc ++ es.drop i, true)) := by
  intro d
  induction d with
  | zero =>
    intro i acc hi ha
    refine Ep.up ?_
    simp only [spec_AddEdge.l0]
    refine Ep.neg (by omega) (Ep.pos trivial (Ep.now ?_))
    rw [List.drop_of_length_le (by omega), List.append_nil]
  | succ d ih =>
    intro i acc hi ha
    have hlt : i < es.length := by omega
    refine Ep.up ?_
    simp only [spec_AddEdge.l0]
    refine Ep.pos (by omega) (Ep.pos (by omega) (Ep.pos (by omega) (Ep.pos trivial (Ep.pos (by omega) ?_))))
    rw [rdE_get hlt, wrap_succ (by omega)]
    refine (ih (i + 1) _ (by omega) (by simp; omega)).mono ?_
    rintro _ rfl
    rw [List.drop_eq_getElem_cons hlt, List.append_assoc]
    rfl
theorem insE_cons (e x : E) (r : List E) : insE e (x :: r) = if x.f0 > e.f0 ∨ (x.f0 = e.f0 ∧ x.f1 > e.f1) then e :: x :: r else x :: insE e r := rfl
theorem addE_l0 (es : List E) (hel : es.length ≤ 12) (n : Int) (e : E) : ∀ (d i : Nat) (acc : List E), i + d = es.length → acc.length ≤ i → Ep (fun k => spec_AddEdge.l0 k false es (es.length : Int) (i : Int) e.f0 e.f1 n acc) (· = (n, acc ++ insE e (es.drop i), true)) := by
  intro d
  induction d with
  | zero =>
    intro i acc hi ha
    refine Ep.up ?_
    simp only [spec_AddEdge.l0]
    refine Ep.neg (by omega) (Ep.neg (by simp) (Ep.pos (by omega) (Ep.now ?_)))
    rw [List.drop_of_length_le (by omega)]
    rfl
  | succ d ih =>
    intro i acc hi ha
    have hlt : i < es.length := by omega
    refine Ep.up ?_
    simp only [spec_AddEdge.l0]
    refine Ep.pos (by omega) (Ep.pos (by omega) (Ep.pos (by omega) (Ep.neg (by simp) ?_)))
    rw [rdE_get hlt, wrap_succ (by omega), List.drop_eq_getElem_cons hlt]
    have put : ∀ (hx : es[i].f0 > e.f0 ∨ (es[i].f0 = e.f0 ∧ es[i].f1 > e.f1)), Ep (fun k => (some (acc ++ [(⟨e.f0, e.f1⟩ : E)])).bind fun y => if y.length < 8796093022208 then spec_AddEdge.l0 k true es (es.length : Int) ((i + 1 : Nat) : Int) e.f0 e.f1 n (y ++ [(⟨es[i].f0, es[i].f1⟩ : E)]) else none) (· = (n, acc ++ insE e (es[i] :: es.drop (i + 1)), true)) := by
      intro hx
      refine Ep.bind0 rfl (Ep.pos (by simp; omega) ?_)
      refine (addE_true es hel n e d (i + 1) _ (by omega) (by simp; omega)).mono ?_
      rintro _ rfl
      unfold insE
      rw [if_pos hx]
      simp only [List.append_assoc, List.cons_append, List.nil_append]
    have go : ∀ (hx : ¬ (es[i].f0 > e.f0 ∨ (es[i].f0 = e.f0 ∧ es[i].f1 > e.f1))), Ep (fun k => spec_AddEdge.l0 k false es (es.length : Int) ((i + 1 : Nat) : Int) e.f0 e.f1 n (acc ++ [(⟨es[i].f0, es[i].f1⟩ : E)])) (· = (n, acc ++ insE e (es[i] :: es.drop (i + 1)), true)) := by
      intro hx
      refine (ih (i + 1) _ (by omega) (by simp; omega)).mono ?_
      rintro _ rfl
      rw [List.append_assoc, insE_cons, if_neg hx]
      rfl
    refine Ep.ite (fun h1 => Ep.pos (by omega) (put (.inl h1))) (fun h1 => Ep.ite (fun h2 => Ep.ite (fun h3 => Ep.pos (by omega) (put (.inr ⟨h2, h3⟩))) (fun h3 => Ep.pos (by omega) (go (by omega)))) (fun h2 => Ep.pos (by omega) (go (by omega))))
theorem addE_ok {n : Int} {es : List E} (hg : GOk n es) (a b : Int) : Ep (fun k => spec_AddEdge.f k n es a b) (fun r => r.2.2 = true → r.1 = n ∧ GOk n r.2.1) := by
  have hG := hg.1
  unfold EsOk at hG
  have hw : wrap64 (n - 1) = n - 1 := wrap_id (by omega) (by omega)
  have no : Ep (fun k => spec_AddEdge.j0 k a b true n es) (fun r => r.2.2 = true → r.1 = n ∧ GOk n r.2.1) := by
    refine Ep.up ?_
    simp only [spec_AddEdge.j0]
    exact Ep.pos trivial (Ep.now (fun h => by cases h))
  simp only [spec_AddEdge.f]
  refine Ep.bind (specGraph n es) ?_
  rintro _ rfl
  rw [gOk_iff.2 hg]
  refine Ep.pos rfl (Ep.bind0 (l01In_eq _ _ _) (Ep.ite (fun h1 => ?_) (fun _ => no)))
  refine Ep.bind0 (l01In_eq _ _ _) (Ep.ite (fun h2 => ?_) (fun _ => no))
  rw [decide_eq_true_eq, hw] at h1 h2
  refine Ep.ite (fun _ => no) (fun h3 => ?_)
  refine Ep.up ?_
  simp only [spec_AddEdge.j0]
  refine Ep.ite (fun _ => Ep.now (fun h => by cases h)) (fun h4 => ?_)
  have h5 : es.length ≠ 12 := by
    intro h
    rw [h] at h4
    exact h4 rfl
  refine (addE_l0 es hG.2.2.1 n ⟨mn a b, mx a b⟩ es.length 0 [] (by omega) (by simp)).mono ?_
  rintro _ rfl _
  refine ⟨rfl, gOk_ins hg h5 ?_⟩
  unfold EOk mn mx
  dsimp only
  split <;> split <;> omega
/-- The rows below a; of row a what lies below b. -/
def hTo (t : List E) (n a b : Nat) : List E := (List.range a).flatMap (hRow t n) ++ (List.range b).flatMap fun c => if a < c then List.replicate (mult t a c).toNat ⟨a, c⟩ else []
theorem hTo_start (t : List E) (n a : Nat) : hTo t n a (a + 1) = (List.range a).flatMap (hRow t n) := by
  have h : ((List.range (a + 1)).flatMap fun c => if a < c then List.replicate (mult t a c).toNat (⟨a, c⟩ : E) else []) = [] := List.flatMap_eq_nil_iff.2 fun c hc => by rw [if_neg (by have := List.mem_range.1 hc; omega)]
  unfold hTo
  rw [h, List.append_nil]
theorem hTo_end (t : List E) (n a : Nat) : hTo t n a n = (List.range (a + 1)).flatMap (hRow t n) := by
  unfold hTo
  rw [List.range_succ, List.flatMap_append]
  simp [hRow]
theorem hTo_next (t : List E) (n a b : Nat) (h : a < b) : hTo t n a (b + 1) = hTo t n a b ++ List.replicate (mult t a b).toNat ⟨a, b⟩ := by
  unfold hTo
  rw [List.range_succ (n := b), List.flatMap_append, ← List.append_assoc]
  simp [h]
theorem len_flat_le (C : Nat) (f : Nat → List E) (h : ∀ i, (f i).length ≤ C) : ∀ n : Nat, ((List.range n).flatMap f).length ≤ C * n := by
  intro n
  induction n with
  | zero => simp
  | succ n ih =>
    rw [List.range_succ, List.flatMap_append, List.length_append]
    have := h n
    simp only [List.flatMap_cons, List.flatMap_nil, List.append_nil]
    rw [Nat.mul_succ]
    omega
theorem hTo_len (t : List E) (ht : t.length ≤ 12) (n a b : Nat) (hn : n ≤ 6) (ha : a ≤ 6) (hb : b ≤ 6) : (hTo t n a b).length ≤ 1000 := by
  have hr : ∀ a c : Nat, (if a < c then List.replicate (mult t a c).toNat (⟨a, c⟩ : E) else []).length ≤ 12 := by
    intro a c
    have := mult_le t a c
    split
    · rw [List.length_replicate]; omega
    · simp
  have h1 : ∀ a, (hRow t n a).length ≤ 72 := fun a => Nat.le_trans (len_flat_le 12 _ (hr a) n) (by omega)
  have h2 := len_flat_le 72 (hRow t n) h1 a
  have h3 := len_flat_le 12 _ (hr a) b
  unfold hTo
  rw [List.length_append]
  omega
/-- What is drawn. -/
def DrawOk (b : List Int) (most : Int) (r : Int × List E × Int × Int) : Prop := ∃ n : Nat, r.1 = n ∧ 2 ≤ n ∧ (n : Int) ≤ most ∧ GOk (n : Int) r.2.1 ∧ Cur b r.2.2.1
theorem draw_l4 {b : List Int} (hb : b.length ≤ 1048576) {n : Nat} (h2 : 2 ≤ n) (h6 : n ≤ 6) {most : Int} (hm : (n : Int) ≤ most) : ∀ (c : Nat) (es : List E) (i h : Int), c ≤ 10 → GOk (n : Int) es → Cur b i → Ep (fun k => spec_l02Draw.l4 k (n : Int) (c : Int) b i h (n : Int) es) (DrawOk b most) := by
  intro c
  induction c with
  | zero =>
    intro es i h _ hg hc
    refine Ep.up ?_
    simp only [spec_l02Draw.l4]
    exact Ep.neg (by omega) (Ep.now ⟨n, rfl, h2, hm, hg, hc⟩)
  | succ c ih =>
    intro es i h hc10 hg hc
    refine Ep.up ?_
    simp only [spec_l02Draw.l4]
    refine Ep.pos (by omega) ?_
    obtain ⟨x, i1, h1, e1, x0, x1, hc1⟩ := below_ok hb h hc (a := (n : Int)) (by omega) (by omega)
    refine Ep.bind0 e1 ?_
    rw [show wrap64 ((n : Int) - 1) = n - 1 from wrap_id (by omega) (by omega)]
    obtain ⟨y, i2, h2', e2, y0, y1, hc2⟩ := below_ok hb h1 hc1 (a := (n : Int) - 1) (by omega) (by omega)
    refine Ep.bind0 e2 (Ep.neg (by omega) ?_)
    rw [show wrap64 (((c + 1 : Nat) : Int) - 1) = c from by rw [wrap_id (by omega) (by omega)]; omega]
    refine Ep.bind (addE_ok hg _ _) ?_
    rintro ⟨n', es', ok⟩ hr
    refine Ep.ite (fun h3 => ?_) (fun _ => ih es i2 h2' (by omega) hg hc2)
    obtain ⟨h4, h5⟩ := hr h3
    dsimp only at h4 h5
    subst h4
    exact ih es' i2 h2' (by omega) h5 hc2
theorem draw_l3 {b : List Int} {n a c : Int} {t : List E} {i h : Int} {Q : Int × List E × Int × Int → Prop} : ∀ (m : Nat) (acc : List E), m ≤ 20 → acc.length + m ≤ 2000 → Ep (fun k => spec_l02Draw.l2 k n a (wrap64 (c + 1)) b i h n t n (acc ++ List.replicate m ⟨a, c⟩)) Q →
    Ep (fun k => spec_l02Draw.l3 k n a c (m : Int) b i h n t n acc) Q := by
  intro m
  induction m with
  | zero =>
    intro acc _ hl hk
    refine Ep.up ?_
    simp only [spec_l02Draw.l3]
    refine Ep.neg (by omega) ?_
    simpa using hk
  | succ m ih =>
    intro acc hm hl hk
    refine Ep.up ?_
    simp only [spec_l02Draw.l3]
    refine Ep.pos (by omega) (Ep.pos (by omega) ?_)
    rw [show wrap64 (((m + 1 : Nat) : Int) - 1) = m from by rw [wrap_id (by omega) (by omega)]; omega]
    refine ih _ (by omega) (by simp; omega) ?_
    rw [List.append_assoc, show [(⟨a, c⟩ : E)] ++ List.replicate m ⟨a, c⟩ = List.replicate (m + 1) ⟨a, c⟩ from rfl]
    exact hk
theorem draw_l2 {b : List Int} {n : Nat} (h6 : n ≤ 6) {t : List E} (ht : TreeE n t) {i h : Int} {a : Nat} (ha : a < n) {Q : Int × List E × Int × Int → Prop}
    (hk : Ep (fun k => spec_l02Draw.l1 k (n : Int) ((a + 1 : Nat) : Int) b i h (n : Int) t (n : Int) ((List.range (a + 1)).flatMap (hRow t n))) Q) : ∀ (d c : Nat), c + d = n → a < c →
    Ep (fun k => spec_l02Draw.l2 k (n : Int) (a : Int) (c : Int) b i h (n : Int) t (n : Int) (hTo t n a c)) Q := by
  have hl := ht.len
  intro d
  induction d with
  | zero =>
    intro c hc hac
    refine Ep.up ?_
    simp only [spec_l02Draw.l2]
    obtain rfl : c = n := by omega
    refine Ep.neg (by omega) ?_
    rw [wrap_succ (by omega), hTo_end]
    exact hk
  | succ d ih =>
    intro c hc hac
    refine Ep.up ?_
    simp only [spec_l02Draw.l2]
    refine Ep.pos (by omega) (Ep.bind (specMult (n : Int) t ht.ok (by omega) (a : Int) (c : Int) (by omega) (by omega)) ?_)
    rintro _ rfl
    have hm0 := mult_nonneg t (a : Int) (c : Int)
    have hm1 := mult_le t (a : Int) (c : Int)
    have hlen := hTo_len t (by omega) n a c h6 (by omega) (by omega)
    obtain ⟨m, hm⟩ := Int.eq_ofNat_of_zero_le hm0
    rw [hm]
    refine draw_l3 m _ (by omega) (by omega) ?_
    rw [wrap_succ (by omega)]
    have := ih (c + 1) (by omega) (by omega)
    rw [hTo_next t n a c hac, hm] at this
    exact this
theorem draw_l1 {b : List Int} (hb : b.length ≤ 1048576) {n : Nat} (h2 : 2 ≤ n) (h6 : n ≤ 6) {most : Int} (hm : (n : Int) ≤ most) {t : List E} (ht : TreeE n t) {i h : Int} (hc : Cur b i) : ∀ (d a : Nat), a + d = n →
    Ep (fun k => spec_l02Draw.l1 k (n : Int) (a : Int) b i h (n : Int) t (n : Int) ((List.range a).flatMap (hRow t n))) (DrawOk b most) := by
  intro d
  induction d with
  | zero =>
    intro a ha
    refine Ep.up ?_
    simp only [spec_l02Draw.l1]
    obtain rfl : a = n := by omega
    refine Ep.neg (by omega) ?_
    obtain ⟨x, i1, h1, e1, x0, x1, hc1⟩ := below_ok hb h hc (a := 5) (by omega) (by omega)
    refine Ep.bind0 e1 ?_
    obtain ⟨c, rfl⟩ := Int.eq_ofNat_of_zero_le x0
    exact draw_l4 hb h2 h6 hm c _ i1 h1 (by omega) (ht.gOk h6) hc1
  | succ d ih =>
    intro a ha
    refine Ep.up ?_
    simp only [spec_l02Draw.l1]
    refine Ep.pos (by omega) ?_
    rw [wrap_succ (by omega), ← hTo_start]
    exact draw_l2 h6 ht (by omega) (ih (a + 1) (by omega)) (n - (a + 1)) (a + 1) (by omega) (by omega)
theorem draw_l0 {b : List Int} (hb : b.length ≤ 1048576) {n : Nat} (h2 : 2 ≤ n) (h6 : n ≤ 6) {most : Int} (hm : (n : Int) ≤ most) : ∀ (d v : Nat) (t : List E) (i h : Int), v + d = n → 1 ≤ v → TreeE v t → Cur b i →
    Ep (fun k => spec_l02Draw.l0 k (n : Int) (v : Int) b i h (v : Int) t) (DrawOk b most) := by
  intro d
  induction d with
  | zero =>
    intro v t i h hv h1 ht hc
    refine Ep.up ?_
    simp only [spec_l02Draw.l0]
    obtain rfl : v = n := by omega
    refine Ep.neg (by omega) ?_
    exact draw_l1 hb h2 h6 hm ht hc v 0 (by omega)
  | succ d ih =>
    intro v t i h hv h1 ht hc
    have hl := ht.len
    refine Ep.up ?_
    simp only [spec_l02Draw.l0]
    obtain ⟨x, i1, h1', e1, x0, x1, hc1⟩ := below_ok hb h hc (a := (v : Int)) (by omega) (by omega)
    refine Ep.pos (by omega) (Ep.bind0 e1 (Ep.pos (by omega) ?_))
    rw [wrap_succ (by omega)]
    exact ih (v + 1) _ i1 h1' (by omega) (by omega) (ht.next x0 x1) hc1
theorem draw_ok {b : List Int} (hb : b.length ≤ 1048576) {i : Int} (h : Int) (hc : Cur b i) {most : Int} (h3 : 2 ≤ most) (h5 : most ≤ 6) : Ep (fun k => spec_l02Draw.f k b i h most) (DrawOk b most) := by
  simp only [spec_l02Draw.f]
  rw [wrap_id (x := most - 1) (by omega) (by omega)]
  obtain ⟨x, i1, h1, e1, x0, x1, hc1⟩ := below_ok hb h hc (a := most - 1) (by omega) (by omega)
  refine Ep.bind0 e1 ?_
  dsimp only
  obtain ⟨c, rfl⟩ := Int.eq_ofNat_of_zero_le x0
  rw [show wrap64 (2 + (c : Int)) = ((2 + c : Nat) : Int) from by rw [wrap_id (by omega) (by omega)]; omega]
  exact draw_l0 hb (by omega) (by omega) (by omega) (1 + c) 1 [] i1 h1 (by omega) (by omega) .start hc1
theorem makeGraph (b : List Int) (hb : b.length ≤ 1048576) : Ep (fun k => spec_MakeGraph.f k b) (fun r => ∃ n : Nat, r.1 = n ∧ 2 ≤ n ∧ n ≤ 5 ∧ GOk (n : Int) r.2) := by
  simp only [spec_MakeGraph.f]
  refine Ep.bind (cur_new b hb) ?_
  rintro ⟨b', i, h⟩ ⟨rfl, hc⟩
  refine Ep.bind (P := DrawOk b' 5) ?_ ?_
  · simp only [spec_l02Graph.f]
    refine Ep.bind (draw_ok hb h hc (by omega) (by omega)) ?_
    intro a ha
    exact Ep.now ha
  · rintro ⟨n', es, _, _⟩ ⟨n, hn, h2, h5, hg, _⟩
    exact Ep.now ⟨n, hn, h2, by omega, hg⟩
/-- A drawn configuration. -/
structure Pl (n : Nat) (q : Int) (p : List Int) : Prop where
  len : p.length = n
  bd : ∀ y ∈ p, 0 ≤ y ∧ y ≤ 6
  hq : rd p q = 0
end Go.Proofs.Ytgobnfeahffnaaa.Cf
end

section
namespace Go.Proofs.Ytgobnfeahffnaaa.Cf
set_option linter.unusedVariables false
set_option linter.unusedSimpArgs false
open Go.RowKit Go.Proofs.YtgobnfeahffnaaaW.PrintWords Go.Proofs.Ytgobnfeahffnaaa.P
theorem same_l0 (a b : List Int) (hl : a.length = b.length) (hb : a.length ≤ 1048576) : ∀ (d i : Nat), i + d = a.length → Ep (fun k => laws_same.l0 k b a (a.length : Int) (i : Int)) (· = decide (a.drop i = b.drop i)) := by
  intro d
  induction d with
  | zero =>
    intro i hi
    refine Ep.up ?_
    simp only [laws_same.l0]
    refine Ep.neg (by omega) (Ep.now ?_)
    rw [List.drop_of_length_le (by omega), List.drop_of_length_le (by omega)]
    rfl
  | succ d ih =>
    intro i hi
    have h1 : i < a.length := by omega
    have h2 : i < b.length := by omega
    refine Ep.up ?_
    simp only [laws_same.l0]
    refine Ep.pos (by omega) (Ep.pos (by omega) (Ep.pos (by omega) (Ep.pos (by omega) ?_)))
    rw [rd_get h1, rd_get h2, wrap_succ (by omega), List.drop_eq_getElem_cons h1, List.drop_eq_getElem_cons h2]
    refine Ep.ite (fun h => (ih (i + 1) (by omega)).mono ?_) (fun h => Ep.now ?_)
    · rintro _ rfl
      rw [h]
      simp only [List.cons.injEq, true_and]
    · rw [eq_comm, decide_eq_false_iff_not]
      intro e
      exact h (List.cons.inj e).1
theorem same_ok (a b : List Int) (hb : a.length ≤ 1048576) : Ep (fun k => laws_same.f k a b) (· = decide (a = b)) := by
  simp only [laws_same.f]
  refine Ep.ite (fun h => ?_) (fun h => Ep.now ?_)
  · simpa using same_l0 a b (by omega) hb a.length 0 (by omega)
  · rw [eq_comm, decide_eq_false_iff_not]
    intro e
    exact h (by rw [e])
theorem same_yes {a b : List Int} (h : a = b) (hb : a.length ≤ 1048576) : Ep (fun k => laws_same.f k a b) (· = true) := (same_ok a b hb).mono (by rintro _ rfl; simpa using h)
theorem has_l0 (l : List Int) (x : Int) (hb : l.length ≤ 1048576) : ∀ (d i : Nat), i + d = l.length → Ep (fun k => laws_has.l0 k x l (l.length : Int) (i : Int)) (· = decide (x ∈ l.drop i)) := by
  intro d
  induction d with
  | zero =>
    intro i hi
    refine Ep.up ?_
    simp only [laws_has.l0]
    refine Ep.neg (by omega) (Ep.now ?_)
    rw [List.drop_of_length_le (by omega)]
    simp
  | succ d ih =>
    intro i hi
    have h1 : i < l.length := by omega
    refine Ep.up ?_
    simp only [laws_has.l0]
    refine Ep.pos (by omega) (Ep.pos (by omega) (Ep.pos (by omega) ?_))
    rw [rd_get h1, wrap_succ (by omega), List.drop_eq_getElem_cons h1]
    refine Ep.ite (fun h => Ep.now ?_) (fun h => (ih (i + 1) (by omega)).mono ?_)
    · simp [h]
    · rintro _ rfl
      have e : ¬ x = l[i] := fun e => h e.symm
      rw [decide_eq_decide, List.mem_cons]
      exact ⟨.inr, fun y => y.resolve_left e⟩
theorem has_ok (l : List Int) (x : Int) (hb : l.length ≤ 1048576) : Ep (fun k => laws_has.f k l x) (· = decide (x ∈ l)) := by
  simp only [laws_has.f]
  simpa using has_l0 l x hb l.length 0 (by omega)
end Go.Proofs.Ytgobnfeahffnaaa.Cf
end

