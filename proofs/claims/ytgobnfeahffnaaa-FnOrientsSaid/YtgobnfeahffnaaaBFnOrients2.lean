/- A part of the proof of FnOrients. -/
import Derived.Test.YtgobnfeahffnaaaBFnOrients1
import Derived.Test.YtgobnfeahffnaaaBFnOrients0
import Derived.Test.YtgobnfeahffnaaaBFnOrientsWMore
import Derived.Laws.BitsLemmas
import Derived.StillTailTactics
section
namespace Go.Proofs.Ytgobnfeahffnaaa.Cf
set_option linter.unusedVariables false
set_option linter.unusedSimpArgs false
/-- Two vertices with an edge between them. -/
def Adj (es : List E) (a b : Int) : Prop := ∃ e ∈ es, (e.f0 = a ∧ e.f1 = b) ∨ (e.f0 = b ∧ e.f1 = a)
theorem Adj.symm {es : List E} {a b : Int} (h : Adj es a b) : Adj es b a := by
  obtain ⟨e, he, h⟩ := h
  exact ⟨e, he, h.symm⟩
/-- b can be reached from a. -/
inductive Conn (es : List E) (a : Int) : Int → Prop
  | refl : Conn es a a
  | tail {b c : Int} : Conn es a b → Adj es b c → Conn es a c
theorem Conn.trans {es : List E} {a b c : Int} (h : Conn es a b) (k : Conn es b c) : Conn es a c := by
  induction k with
  | refl => exact h
  | tail _ hadj ih => exact ih.tail hadj
theorem Conn.one {es : List E} {a b : Int} (h : Adj es a b) : Conn es a b := Conn.refl.tail h
theorem Conn.symm {es : List E} {a b : Int} (h : Conn es a b) : Conn es b a := by
  induction h with
  | refl => exact .refl
  | tail _ hadj ih => exact (Conn.one hadj.symm).trans ih
theorem Conn.sub {es fs : List E} (hs : ∀ e ∈ es, e ∈ fs) {a b : Int} (h : Conn es a b) : Conn fs a b := by
  induction h with
  | refl => exact .refl
  | tail _ hadj ih =>
    obtain ⟨e, he, hx⟩ := hadj
    exact ih.tail ⟨e, hs e he, hx⟩
/-- What is closed under the edges holds what is reached. -/
theorem Conn.closed {es : List E} {S : Int → Prop} (hS : ∀ a b, S a → Adj es a b → S b) {a b : Int} (h : Conn es a b) (ha : S a) : S b := by
  induction h with
  | refl => exact ha
  | tail _ hadj ih => exact hS _ _ ih hadj
/-- An edge between two vertices below n. -/
def EOk (n : Int) (e : E) : Prop := 0 ≤ e.f0 ∧ e.f0 < e.f1 ∧ e.f1 < n
instance decEOk (n : Int) (e : E) : Decidable (EOk n e) := by unfold EOk; infer_instance
def EsOk (n : Int) (es : List E) : Prop := 1 ≤ n ∧ n ≤ 6 ∧ es.length ≤ 12 ∧ ∀ e ∈ es, EOk n e
instance decEsOk (n : Int) (es : List E) : Decidable (EsOk n es) := by unfold EsOk; infer_instance
def leE (a b : E) : Prop := a.f0 < b.f0 ∨ (a.f0 = b.f0 ∧ a.f1 ≤ b.f1)
instance decLeE (a b : E) : Decidable (leE a b) := by unfold leE; infer_instance
def Sorted (es : List E) : Prop := ∀ i, (h : i + 1 < es.length) → leE es[i] es[i + 1]
def Joined (n : Int) (es : List E) : Prop := ∀ v, 0 ≤ v → v < n → Conn es 0 v
/-- A valid graph. -/
def GOk (n : Int) (es : List E) : Prop := EsOk n es ∧ Sorted es ∧ Joined n es
instance decSorted (es : List E) : Decidable (Sorted es) := decidable_of_iff (∀ i, (h : i < es.length - 1) → leE (es[i]'(by omega)) (es[i + 1]'(by omega))) ⟨fun h i hi => h i (by omega), fun h i hi => h i (by omega)⟩
theorem EsOk.adj {n : Int} {es : List E} (h : ∀ e ∈ es, EOk n e) {a b : Int} (hab : Adj es a b) : 0 ≤ b ∧ b < n := by
  obtain ⟨e, he, hx⟩ := hab
  have := h e he
  unfold EOk at this
  omega
def stepM (m : Nat) (e : E) : Nat := if m.testBit e.f0.toNat || m.testBit e.f1.toNat then m ||| (2 ^ e.f0.toNat ||| 2 ^ e.f1.toNat) else m
def roundM (es : List E) (m : Nat) : Nat := es.foldl stepM m
def timesM (es : List E) : Nat → Nat → Nat
  | 0, m => m
  | k + 1, m => timesM es k (roundM es m)
theorem testBit_step {m : Nat} {e : E} {i : Nat} : (stepM m e).testBit i = (m.testBit i || ((m.testBit e.f0.toNat || m.testBit e.f1.toNat) && (i == e.f0.toNat || i == e.f1.toNat))) := by
  unfold stepM
  by_cases h : (m.testBit e.f0.toNat || m.testBit e.f1.toNat) = true
  · rw [if_pos h, h]
    simp only [Nat.testBit_or, Nat.testBit_two_pow, Bool.true_and]
    congr 1
    rw [Bool.eq_iff_iff]
    simp only [Bool.or_eq_true, decide_eq_true_eq, beq_iff_eq]
    omega
  · rw [if_neg h]
    simp only [Bool.not_eq_true] at h
    rw [h]
    simp
theorem step_mono {m : Nat} {e : E} {i : Nat} (h : m.testBit i = true) : (stepM m e).testBit i = true := by rw [testBit_step, h]; rfl
theorem round_mono (es : List E) : ∀ {m : Nat} {i : Nat}, m.testBit i = true → (roundM es m).testBit i = true := by
  induction es with
  | nil => intro m i h; exact h
  | cons e r ih => intro m i h; exact ih (step_mono h)
theorem times_mono (es : List E) : ∀ (k : Nat) {m : Nat} {i : Nat}, m.testBit i = true → (timesM es k m).testBit i = true
  | 0, _, _, h => h
  | k + 1, _, _, h => times_mono es k (round_mono es h)
/-- Every bit is of a vertex that can be reached. -/
def MOk (es : List E) (n : Int) (m : Nat) : Prop := ∀ i : Nat, m.testBit i = true → (i : Int) < n ∧ Conn es 0 i
theorem step_ok {es : List E} {n : Int} {m : Nat} {e : E} (he : e ∈ es) (hk : EOk n e) (h : MOk es n m) : MOk es n (stepM m e) := by
  intro i hi
  rw [testBit_step] at hi
  simp only [Bool.or_eq_true, Bool.and_eq_true, beq_iff_eq] at hi
  unfold EOk at hk
  have e0 : ((e.f0.toNat : Nat) : Int) = e.f0 := by omega
  have e1 : ((e.f1.toNat : Nat) : Int) = e.f1 := by omega
  rcases hi with hi | ⟨hm, hi⟩
  · exact h i hi
  · have key : Conn es 0 e.f0 ∧ Conn es 0 e.f1 := by
      rcases hm with hm | hm
      · have := (h _ hm).2
        rw [e0] at this
        exact ⟨this, this.tail ⟨e, he, .inl ⟨rfl, rfl⟩⟩⟩
      · have := (h _ hm).2
        rw [e1] at this
        exact ⟨this.tail ⟨e, he, .inr ⟨rfl, rfl⟩⟩, this⟩
    rcases hi with hi | hi
    · subst hi
      rw [e0]
      exact ⟨by omega, key.1⟩
    · subst hi
      rw [e1]
      exact ⟨by omega, key.2⟩
theorem round_ok {es : List E} {n : Int} (hes : ∀ e ∈ es, EOk n e) : ∀ (fs : List E), (∀ e ∈ fs, e ∈ es) → ∀ {m : Nat}, MOk es n m → MOk es n (roundM fs m) := by
  intro fs
  induction fs with
  | nil => intro _ m h; exact h
  | cons e r ih =>
    intro hs m h
    have he := hs e (List.mem_cons_self)
    exact ih (fun x hx => hs x (List.mem_cons_of_mem _ hx)) (step_ok he (hes e he) h)
theorem times_ok {es : List E} {n : Int} (hes : ∀ e ∈ es, EOk n e) : ∀ (k : Nat) {m : Nat}, MOk es n m → MOk es n (timesM es k m)
  | 0, _, h => h
  | k + 1, _, h => times_ok hes k (round_ok hes es (fun _ h => h) h)
/-- How many of the first n bits are set. -/
def cnt (n : Nat) (m : Nat) : Nat := (List.range n).countP (m.testBit ·)
theorem cnt_le (n m : Nat) : cnt n m ≤ n := by
  unfold cnt
  have := List.countP_le_length (p := fun i => m.testBit i) (l := List.range n)
  simpa using this
theorem countP_lt {α : Type} {p q : α → Bool} : ∀ {l : List α}, (∀ x ∈ l, p x = true → q x = true) → (∃ x ∈ l, p x = false ∧ q x = true) → l.countP p < l.countP q
  | [], _, h => by obtain ⟨x, hx, _⟩ := h; cases hx
  | y :: r, hpq, h => by
    have hle : r.countP p ≤ r.countP q := List.countP_mono_left (fun x hx => hpq x (List.mem_cons_of_mem _ hx))
    simp only [List.countP_cons]
    by_cases hy : p y = false ∧ q y = true
    · rw [hy.1, hy.2]
      simp
      omega
    · have hr : r.countP p < r.countP q := by
        apply countP_lt (fun x hx => hpq x (List.mem_cons_of_mem _ hx))
        obtain ⟨x, hx, h1⟩ := h
        rcases List.mem_cons.1 hx with rfl | hx
        · exact absurd h1 hy
        · exact ⟨x, hx, h1⟩
      have h2 := hpq y List.mem_cons_self
      by_cases hp : p y = true
      · rw [hp, h2 hp]
        simp
        omega
      · simp only [hp, if_false, Bool.not_eq_true] at *
        simp
        split <;> omega
theorem cnt_lt {n m m' : Nat} (h : ∀ i, m.testBit i = true → m'.testBit i = true) (hx : ∃ i, i < n ∧ m.testBit i = false ∧ m'.testBit i = true) : cnt n m < cnt n m' := by
  obtain ⟨i, hi, h1⟩ := hx
  exact countP_lt (fun x _ => h x) ⟨i, List.mem_range.2 hi, h1⟩
/-- A round that adds nothing has a closed set. -/
theorem round_fix_step {es : List E} : ∀ (fs : List E) {m : Nat}, (∀ i, (roundM fs m).testBit i = true → m.testBit i = true) → ∀ e ∈ fs, m.testBit e.f0.toNat = m.testBit e.f1.toNat := by
  intro fs
  induction fs with
  | nil => intro m _ e he; cases he
  | cons a r ih =>
    intro m h e he
    have hst : ∀ i, (stepM m a).testBit i = true → m.testBit i = true := fun i hi => h i (round_mono r hi)
    have heq : stepM m a = m := by
      apply Nat.eq_of_testBit_eq
      intro i
      rw [Bool.eq_iff_iff]
      exact ⟨hst i, step_mono⟩
    rcases List.mem_cons.1 he with rfl | he
    · have h0 := hst e.f0.toNat
      have h1 := hst e.f1.toNat
      rw [testBit_step] at h0 h1
      simp only [beq_self_eq_true, Bool.true_or, Bool.or_true, Bool.and_true, Bool.or_eq_true] at h0 h1
      rw [Bool.eq_iff_iff]
      exact ⟨fun hx => h1 (.inr (.inl hx)), fun hx => h0 (.inr (.inr hx))⟩
    · have : roundM (a :: r) m = roundM r m := by show roundM r (stepM m a) = _; rw [heq]
      exact ih (fun i hi => h i (by rw [this]; exact hi)) e he
theorem closed_of_fix {es : List E} {n : Int} (hes : ∀ e ∈ es, EOk n e) {m : Nat} (h : ∀ i, (roundM es m).testBit i = true → m.testBit i = true) (h0 : m.testBit 0 = true) (i : Nat) (hi : Conn es 0 i) : m.testBit i = true := by
  have hf := round_fix_step (es := es) es h
  have key : ∀ v : Int, Conn es 0 v → 0 ≤ v ∧ m.testBit v.toNat = true := by
    intro v hv
    refine hv.closed (S := fun v => 0 ≤ v ∧ m.testBit v.toNat = true) ?_ ⟨by omega, h0⟩
    rintro a b ⟨ha, hb⟩ ⟨e, he, hx⟩
    have hk := hes e he
    unfold EOk at hk
    rcases hx with ⟨h1, h2⟩ | ⟨h1, h2⟩
    · subst h1; subst h2
      exact ⟨by omega, by rw [← hf e he]; exact hb⟩
    · subst h1; subst h2
      exact ⟨by omega, by rw [hf e he]; exact hb⟩
  have := (key i hi).2
  simpa using this
theorem times_grow {es : List E} {n : Nat} (hes : ∀ e ∈ es, EOk n e) : ∀ (k : Nat) {m : Nat}, MOk es n m → m.testBit 0 = true →
    (∀ i : Nat, Conn es 0 i → (timesM es k m).testBit i = true) ∨ k + cnt n m ≤ cnt n (timesM es k m)
  | 0, m, _, _ => .inr (by simp [timesM])
  | k + 1, m, hm, h0 => by
    by_cases hfix : ∀ i, (roundM es m).testBit i = true → m.testBit i = true
    · left
      intro i hi
      exact times_mono es (k + 1) (closed_of_fix hes hfix h0 i hi)
    · obtain ⟨i, hi⟩ := Classical.not_forall.1 hfix
      have hi1 : (roundM es m).testBit i = true := Classical.byContradiction fun hc => hi (fun x => absurd x hc)
      have hi2 : m.testBit i = false := by
        cases hb : m.testBit i with
        | false => rfl
        | true => exact absurd (fun _ => hb) hi
      have hok := round_ok hes es (fun _ h => h) hm
      have hlt : cnt n m < cnt n (roundM es m) := cnt_lt (fun j hj => round_mono es hj) ⟨i, by have := (hok i hi1).1; omega, hi2, hi1⟩
      rcases times_grow hes k hok (round_mono es h0) with h | h
      · exact .inl h
      · right
        show k + 1 + _ ≤ cnt n (timesM es k (roundM es m))
        omega
theorem cnt_full {n m : Nat} (h : n ≤ cnt n m) : ∀ i, i < n → m.testBit i = true := by
  intro i hi
  apply Classical.byContradiction
  intro hc
  have hc' : m.testBit i = false := by simpa using hc
  have : cnt n m < cnt n (2 ^ n - 1) := by
    refine countP_lt (fun x hx _ => ?_) ⟨i, List.mem_range.2 hi, hc', ?_⟩
    · rw [Nat.testBit_two_pow_sub_one]; simpa using hx
    · rw [Nat.testBit_two_pow_sub_one]; simpa using hi
  have := cnt_le n (2 ^ n - 1)
  omega
/-- The set of bits tells whether all are joined. -/
theorem times_joined {es : List E} {n : Nat} (h1 : 1 ≤ n) (hes : ∀ e ∈ es, EOk n e) : timesM es n 1 = 2 ^ n - 1 ↔ Joined n es := by
  have hm1 : MOk es n 1 := by
    intro i hi
    have : i = 0 := by simpa [Nat.testBit_one_eq_true_iff_self_eq_zero] using hi
    subst this
    exact ⟨by omega, .refl⟩
  have h0 : (1 : Nat).testBit 0 = true := by decide
  have hok := times_ok hes n hm1
  constructor
  · intro h v hv0 hvn
    have := hok v.toNat (by rw [h, Nat.testBit_two_pow_sub_one]; simp; omega)
    have e : ((v.toNat : Nat) : Int) = v := by omega
    rw [e] at this
    exact this.2
  · intro hj
    have hall : ∀ i, i < n → (timesM es n 1).testBit i = true := by
      rcases times_grow hes n hm1 h0 with h | h
      · exact fun i hi => h i (hj i (by omega) (by omega))
      · have : n ≤ cnt n (timesM es n 1) := by omega
        exact cnt_full this
    apply Nat.eq_of_testBit_eq
    intro i
    rw [Nat.testBit_two_pow_sub_one, Bool.eq_iff_iff]
    simp only [decide_eq_true_eq]
    refine ⟨fun h => ?_, fun h => hall i h⟩
    have := (hok i h).1
    omega
/-- Whether a graph is valid. -/
def gOk (n : Int) (es : List E) : Bool := decide (EsOk n es) && (decide (Sorted es) && decide (timesM es n.toNat 1 = 2 ^ n.toNat - 1))
theorem gOk_iff {n : Int} {es : List E} : gOk n es = true ↔ GOk n es := by
  unfold gOk GOk
  simp only [Bool.and_eq_true, decide_eq_true_eq]
  constructor
  · rintro ⟨h1, h2, h3⟩
    have h := h1
    unfold EsOk at h
    obtain ⟨m, rfl⟩ := Int.eq_ofNat_of_zero_le (a := n) (by omega)
    exact ⟨h1, h2, (times_joined (n := m) (by omega) h.2.2.2).1 h3⟩
  · rintro ⟨h1, h2, h3⟩
    have h := h1
    unfold EsOk at h
    obtain ⟨m, rfl⟩ := Int.eq_ofNat_of_zero_le (a := n) (by omega)
    exact ⟨h1, h2, (times_joined (n := m) (by omega) h.2.2.2).2 h3⟩
/-- What a queue holds: vertices that can be reached, each once. -/
def QOk (es : List E) (n : Int) (q : List Int) : Prop := q.Nodup ∧ ∀ v ∈ q, (0 ≤ v ∧ v < n) ∧ Conn es 0 v
theorem nodup_len : ∀ (n : Nat) (l : List Int), l.Nodup → (∀ v ∈ l, 0 ≤ v ∧ v < n) → l.length ≤ n
  | 0, l, _, hv => by
    cases l with
    | nil => exact Nat.le_refl _
    | cons a r => have := hv a List.mem_cons_self; omega
  | n + 1, l, hl, hv => by
    by_cases hm : (n : Int) ∈ l
    · have h1 := nodup_len n (l.erase n) (hl.erase _) (fun v hx => by
        have h2 := (hl.mem_erase_iff).1 hx
        have := hv v h2.2
        have := h2.1
        omega)
      rw [List.length_erase_of_mem hm] at h1
      omega
    · have := nodup_len n l hl (fun v hx => by
        have := hv v hx
        have : v ≠ n := by rintro rfl; exact hm hx
        omega)
      omega
theorem len_nodup : ∀ (n : Nat) (l : List Int), (∀ i : Nat, i < n → (i : Int) ∈ l) → n ≤ l.length
  | 0, _, _ => Nat.zero_le _
  | n + 1, l, h => by
    have hm := h n (by omega)
    have := len_nodup n (l.erase n) (fun i hi => (List.mem_erase_of_ne (by omega)).2 (h i (by omega)))
    rw [List.length_erase_of_mem hm] at this
    have : 0 < l.length := List.length_pos_of_mem hm
    omega
/-- A queue that is closed holds what can be reached: it has n vertices just if all are joined. -/
theorem queue_joined {es : List E} {n : Nat} (h1 : 1 ≤ n) {q : List Int} (hq : QOk es n q) (h0 : (0 : Int) ∈ q) (hc : ∀ a ∈ q, ∀ b, Adj es a b → b ∈ q) : q.length = n ↔ Joined n es := by
  constructor
  · intro hl v hv0 hvn
    have : v ∈ q := by
      apply Classical.byContradiction
      intro hv
      have := nodup_len n (v :: q) (List.nodup_cons.2 ⟨hv, hq.1⟩) (fun x hx => by
        rcases List.mem_cons.1 hx with rfl | hx
        · exact ⟨hv0, hvn⟩
        · exact (hq.2 x hx).1)
      simp at this
      omega
    exact (hq.2 v this).2
  · intro hj
    have := nodup_len n q hq.1 (fun x hx => (hq.2 x hx).1)
    have := len_nodup n q (fun i hi => (hj i (by omega) (by omega)).closed (S := fun x => x ∈ q) (fun a b ha hab => hc a ha b hab) h0)
    omega
theorem QOk.push {es : List E} {n : Int} {q : List Int} (h : QOk es n q) {v : Int} (hv : v ∉ q) (h0 : 0 ≤ v ∧ v < n) (hc : Conn es 0 v) : QOk es n (q ++ [v]) := by
  refine ⟨?_, fun x hx => ?_⟩
  · rw [List.nodup_append]
    exact ⟨h.1, by simp, fun a ha b hb => by
      rw [List.mem_singleton.1 hb]
      rintro rfl
      exact hv ha⟩
  · rcases List.mem_append.1 hx with hx | hx
    · exact h.2 x hx
    · rw [List.mem_singleton.1 hx]
      exact ⟨h0, hc⟩
end Go.Proofs.Ytgobnfeahffnaaa.Cf
end

section
namespace Go.Proofs.Ytgobnfeahffnaaa.P
open Go.RowKit Go.Proofs.YtgobnfeahffnaaaW.PrintWords Go.Proofs.YtgobnfeahffnaaaW.PrintLast Go.Proofs.YtgobnfeahffnaaaW.PrintMore
attribute [local go_sem] max2_int min2_int max_two min_two max_three min_three max_four min_four
set_option linter.unusedVariables false
set_option linter.unusedSimpArgs false
def laws_toIntS.l0 : Nat → List Int → List Int → Int → Option (List Int)
 | 0, _, _, _ => none
 | k + 1, x0, x3, x4 => if x4 < (x0.length : Int) then (if 0 ≤ x4 then (if x4 < (x3.length : Int) then (laws_toIntS.l0 k x0 (x3.set (x4 : Int).toNat (rd x0 x4)) (wrap64 (x4 + 1))) else (none)) else (none)) else (some x3)
def laws_toIntS.f (k : Nat) (l0 : List Int) : Option (List Int) := if 0 ≤ (l0.length : Int) then (if ((l0.length : Int) : Int).toNat ≤ 35184372088832 then (laws_toIntS.l0 k l0 (List.replicate ((l0.length : Int) : Int).toNat 0) 0) else (none)) else (none)
theorem laws_toIntS.mono_l : ∀ k, (∀ y0 y1 y2, LeO (laws_toIntS.l0 k y0 y1 y2) (laws_toIntS.l0 (k + 1) y0 y1 y2))
 | 0 => fun _ _ _ r h => by simp [laws_toIntS.l0] at h
 | k + 1 => by
  have ih0 := laws_toIntS.mono_l k
  ·intro y0 y1 y2
   unfold laws_toIntS.l0
   exact zm0
theorem laws_toIntS.mono : ∀ a0 k, LeO (laws_toIntS.f k a0) (laws_toIntS.f (k + 1) a0) := by
 intro a0 k; have ih0 := laws_toIntS.mono_l k; unfold laws_toIntS.f; exact zm0
def laws_eqIntS.l0 : Nat → List Int → List Int → Int → Option (Bool)
 | 0, _, _, _ => none
 | k + 1, x0, x1, x5 => if x5 < (x0.length : Int) then (if 0 ≤ x5 then (if x5 < (x1.length : Int) then (if (rd x0 x5) = (rd x1 x5) then (laws_eqIntS.l0 k x0 x1 (wrap64 (x5 + 1))) else (some false)) else (none)) else (none)) else (some true)
def laws_eqIntS.f (k : Nat) (l0 : List Int) (l1 : List Int) : Option (Bool) := if (l0.length : Int) = (l1.length : Int) then (laws_eqIntS.l0 k l0 l1 0) else (some false)
theorem laws_eqIntS.mono_l : ∀ k, (∀ y0 y1 y2, LeO (laws_eqIntS.l0 k y0 y1 y2) (laws_eqIntS.l0 (k + 1) y0 y1 y2))
 | 0 => fun _ _ _ r h => by simp [laws_eqIntS.l0] at h
 | k + 1 => by
  have ih0 := laws_eqIntS.mono_l k
  ·intro y0 y1 y2
   unfold laws_eqIntS.l0
   exact zm0
theorem laws_eqIntS.mono : ∀ a0 a1 k, LeO (laws_eqIntS.f k a0 a1) (laws_eqIntS.f (k + 1) a0 a1) := by
 intro a0 a1 k; have ih0 := laws_eqIntS.mono_l k; unfold laws_eqIntS.f; exact zm0
def laws_markIntS.l0 : Nat → List Int → Int → Int → Option (Int × List Int)
 | 0, _, _, _ => none
 | k + 1, x0, x1, x5 => if x5 < (x0.length : Int) then (if 0 ≤ x5 then (laws_markIntS.l0 k (x0.set (x5 : Int).toNat x1) (wrap64 (x1 + 1)) (wrap64 (x5 + 1))) else (none)) else (some (x1, x0))
def laws_markIntS.f (k : Nat) (l0 : List Int) (a1 : Int) : Option (Int × List Int) := laws_markIntS.l0 k l0 a1 0
theorem laws_markIntS.mono_l : ∀ k, (∀ y0 y1 y2, LeO (laws_markIntS.l0 k y0 y1 y2) (laws_markIntS.l0 (k + 1) y0 y1 y2))
 | 0 => fun _ _ _ r h => by simp [laws_markIntS.l0] at h
 | k + 1 => by
  have ih0 := laws_markIntS.mono_l k
  ·intro y0 y1 y2
   unfold laws_markIntS.l0
   exact zm0
theorem laws_markIntS.mono : ∀ a0 a1 k, LeO (laws_markIntS.f k a0 a1) (laws_markIntS.f (k + 1) a0 a1) := by
 intro a0 a1 k; have ih0 := laws_markIntS.mono_l k; unfold laws_markIntS.f; exact zm0
def laws_heldIntS.l0 : Nat → List Int → Int → Int → Option (Int)
 | 0, _, _, _ => none
 | k + 1, x0, x1, x5 => if x5 < (x0.length : Int) then (if 0 ≤ x5 then (if (rd x0 x5) = x1 then (laws_heldIntS.l0 k x0 (wrap64 (x1 + 1)) (wrap64 (x5 + 1))) else (some (-1))) else (none)) else (some x1)
def laws_heldIntS.f (k : Nat) (l0 : List Int) (a1 : Int) : Option (Int) := laws_heldIntS.l0 k l0 a1 0
theorem laws_heldIntS.mono_l : ∀ k, (∀ y0 y1 y2, LeO (laws_heldIntS.l0 k y0 y1 y2) (laws_heldIntS.l0 (k + 1) y0 y1 y2))
 | 0 => fun _ _ _ r h => by simp [laws_heldIntS.l0] at h
 | k + 1 => by
  have ih0 := laws_heldIntS.mono_l k
  ·intro y0 y1 y2
   unfold laws_heldIntS.l0
   exact zm0
theorem laws_heldIntS.mono : ∀ a0 a1 k, LeO (laws_heldIntS.f k a0 a1) (laws_heldIntS.f (k + 1) a0 a1) := by
 intro a0 a1 k; have ih0 := laws_heldIntS.mono_l k; unfold laws_heldIntS.f; exact zm0
end Go.Proofs.Ytgobnfeahffnaaa.P
end

section
namespace Go.Proofs.Ytgobnfeahffnaaa.Cf
set_option linter.unusedVariables false
set_option linter.unusedSimpArgs false
open Go.RowKit Go.Proofs.YtgobnfeahffnaaaW.PrintWords Go.Proofs.Ytgobnfeahffnaaa.P
theorem wrap_succ {i : Nat} (h : i < 4611686018427387904) : wrap64 ((i : Int) + 1) = ((i + 1 : Nat) : Int) := by
  rw [wrap_id (by omega) (by omega)]
  omega
theorem rdE_get {es : List E} {i : Nat} (h : i < es.length) : rd_T83 es (i : Int) = es[i] := by simp [rd_T83, List.getD, h]
theorem l01In_eq (a b c : Int) : spec_l01In.f a b c = some (decide (b ≤ a ∧ a ≤ c)) := by
  unfold spec_l01In.f
  by_cases h : a ≥ b
  · rw [if_pos h]
    have : (b ≤ a ∧ a ≤ c) ↔ a ≤ c := ⟨fun x => x.2, fun x => ⟨h, x⟩⟩
    simp only [this]
  · rw [if_neg h]
    have : ¬ (b ≤ a ∧ a ≤ c) := fun x => h x.1
    simp only [this, decide_false]
theorem forall_drop {es : List E} {P : E → Prop} {i : Nat} (h : i < es.length) : (∀ e ∈ es.drop i, P e) ↔ (P es[i] ∧ ∀ e ∈ es.drop (i + 1), P e) := by
  rw [List.drop_eq_getElem_cons h]
  simp only [List.mem_cons, forall_eq_or_imp]
theorem specEdges_l0 (n : Int) (hn : 1 ≤ n ∧ n ≤ 6) (es : List E) (hl : es.length ≤ 12) : ∀ (d i : Nat), i + d = es.length → Ep (fun k => spec_EdgesOk.l0 k es (es.length : Int) (i : Int) n es) (· = decide (∀ e ∈ es.drop i, EOk n e)) := by
  intro d
  induction d with
  | zero =>
    intro i hi
    refine Ep.up ?_
    simp only [spec_EdgesOk.l0]
    refine Ep.neg (by omega) (Ep.now ?_)
    rw [List.drop_of_length_le (by omega)]
    simp
  | succ d ih =>
    intro i hi
    have hlt : i < es.length := by omega
    refine Ep.up ?_
    simp only [spec_EdgesOk.l0]
    refine Ep.pos (by omega) (Ep.pos (by omega) (Ep.pos (by omega) ?_))
    rw [rdE_get hlt, wrap_id (x := n - 1) (by omega) (by omega)]
    refine Ep.bind0 (l01In_eq _ _ _) ?_
    refine Ep.ite (fun h0 => ?_) (fun h0 => Ep.now ?_)
    · have h0' : 0 ≤ es[i].f0 ∧ es[i].f0 ≤ n - 1 := by simpa using h0
      rw [wrap_id (x := es[i].f0 + 1) (by omega) (by omega)]
      refine Ep.bind0 (l01In_eq _ _ _) ?_
      refine Ep.ite (fun h1 => ?_) (fun h1 => Ep.now ?_)
      · have h1' : es[i].f0 + 1 ≤ es[i].f1 ∧ es[i].f1 ≤ n - 1 := by simpa using h1
        rw [wrap_succ (by omega)]
        refine (ih (i + 1) (by omega)).mono ?_
        rintro _ rfl
        have : EOk n es[i] := by unfold EOk; omega
        simp only [forall_drop hlt, this, true_and]
      · have h1' : ¬ (es[i].f0 + 1 ≤ es[i].f1 ∧ es[i].f1 ≤ n - 1) := by simpa using h1
        have : ¬ EOk n es[i] := by unfold EOk; omega
        simp only [forall_drop hlt, this, false_and, decide_false]
    · have h0' : ¬ (0 ≤ es[i].f0 ∧ es[i].f0 ≤ n - 1) := by simpa using h0
      have : ¬ EOk n es[i] := by unfold EOk; omega
      simp only [forall_drop hlt, this, false_and, decide_false]
theorem specEdges (n : Int) (es : List E) : Ep (fun k => spec_EdgesOk.f k n es) (· = decide (EsOk n es)) := by
  simp only [spec_EdgesOk.f]
  refine Ep.bind0 (l01In_eq _ _ _) ?_
  refine Ep.ite (fun h0 => ?_) (fun h0 => ?_)
  · have h0' : 1 ≤ n ∧ n ≤ 6 := by simpa using h0
    refine Ep.up ?_
    simp only [spec_EdgesOk.j0]
    refine Ep.ite (fun h1 => Ep.now ?_) (fun h1 => ?_)
    · have : ¬ EsOk n es := by
        have : (es.length : Int) > 12 := by simpa using h1
        unfold EsOk
        omega
      simp [this]
    · have hl : es.length ≤ 12 := by
        have : ¬ (es.length : Int) > 12 := by simpa using h1
        omega
      refine (specEdges_l0 n h0' es hl es.length 0 (by omega)).mono ?_
      rintro _ rfl
      rw [List.drop_zero]
      unfold EsOk
      simp only [h0'.1, h0'.2, hl, true_and]
  · have h0' : ¬ (1 ≤ n ∧ n ≤ 6) := by simpa using h0
    refine Ep.up ?_
    simp only [spec_EdgesOk.j0]
    refine Ep.pos (by simp) (Ep.now ?_)
    have : ¬ EsOk n es := by
      unfold EsOk
      omega
    simp [this]
theorem specHas_l0 (x : Int) (l : List Int) (hl : l.length ≤ 1048576) : ∀ (d i : Nat), i + d = l.length → Ep (fun k => spec_l02Has.l0 k x l (l.length : Int) (i : Int)) (· = decide (x ∈ l.drop i)) := by
  intro d
  induction d with
  | zero =>
    intro i hi
    refine Ep.up ?_
    simp only [spec_l02Has.l0]
    refine Ep.neg (by omega) (Ep.now ?_)
    rw [List.drop_of_length_le (by omega)]
    simp
  | succ d ih =>
    intro i hi
    have hlt : i < l.length := by omega
    refine Ep.up ?_
    simp only [spec_l02Has.l0]
    refine Ep.pos (by omega) (Ep.pos (by omega) (Ep.pos (by omega) ?_))
    rw [rd_get hlt, wrap_succ (by omega), List.drop_eq_getElem_cons hlt]
    refine Ep.ite (fun h => Ep.now ?_) (fun h => ?_)
    · simp only [List.mem_cons, h, true_or, decide_true]
    · refine (ih (i + 1) (by omega)).mono ?_
      rintro _ rfl
      have : ¬ x = l[i] := fun e => h e.symm
      simp only [List.mem_cons, this, false_or]
theorem specHas (l : List Int) (x : Int) (hl : l.length ≤ 1048576) : Ep (fun k => spec_l02Has.f k l x) (· = decide (x ∈ l)) := by
  have := specHas_l0 x l hl l.length 0 (by omega)
  simp only [spec_l02Has.f]
  exact this
/-- The queue between two edges. -/
structure BInv (es : List E) (n : Nat) (q : List Int) (a i : Nat) (u : Int) : Prop where
  ok : QOk es n q
  zero : (0 : Int) ∈ q
  done : ∀ x ∈ q.take a, ∀ b, Adj es x b → b ∈ q
  at_ : q[a]? = some u
  part : ∀ e ∈ es.take i, (e.f0 = u → e.f1 ∈ q) ∧ (e.f1 = u → e.f0 ∈ q)
theorem BInv.lt {es : List E} {n : Nat} {q : List Int} {a i : Nat} {u : Int} (h : BInv es n q a i u) : a < q.length := by
  apply Classical.byContradiction
  intro hc
  have := h.at_
  rw [List.getElem?_eq_none (by omega)] at this
  cases this
theorem BInv.len {es : List E} {n : Nat} {q : List Int} {a i : Nat} {u : Int} (h : BInv es n q a i u) : q.length ≤ n := nodup_len n q h.ok.1 (fun v hv => (h.ok.2 v hv).1)
theorem BInv.rd {es : List E} {n : Nat} {q : List Int} {a i : Nat} {u : Int} (h : BInv es n q a i u) : rd q (a : Int) = u := by
  rw [rd_nat, List.getD_eq_getElem?_getD, h.at_]
  rfl
/-- A neighbour is put behind. -/
theorem BInv.push {es : List E} {n : Nat} {q : List Int} {a i : Nat} {u v : Int} (hes : ∀ e ∈ es, EOk n e) (h : BInv es n q a i u) (hv : v ∉ q) (hadj : Adj es u v) : BInv es n (q ++ [v]) a i u where
  ok := by
    have hu : u ∈ q := List.mem_of_getElem? h.at_
    exact h.ok.push hv (EsOk.adj hes hadj) ((h.ok.2 u hu).2.tail hadj)
  zero := List.mem_append_left _ h.zero
  done := fun x hx b hb => by
    rw [List.take_append_of_le_length (by have := h.lt; omega)] at hx
    exact List.mem_append_left _ (h.done x hx b hb)
  at_ := by rw [List.getElem?_append_left h.lt]; exact h.at_
  part := fun e he => ⟨fun x => List.mem_append_left _ ((h.part e he).1 x), fun x => List.mem_append_left _ ((h.part e he).2 x)⟩
theorem BInv.next {es : List E} {n : Nat} {q : List Int} {a i : Nat} {u : Int} (h : BInv es n q a i u) (hi : i < es.length) (h0 : es[i].f0 = u → es[i].f1 ∈ q) (h1 : es[i].f1 = u → es[i].f0 ∈ q) : BInv es n q a (i + 1) u where
  ok := h.ok
  zero := h.zero
  done := h.done
  at_ := h.at_
  part := fun e he => by
    rw [List.take_succ_eq_append_getElem hi] at he
    rcases List.mem_append.1 he with he | he
    · exact h.part e he
    · rw [List.mem_singleton.1 he]
      exact ⟨h0, h1⟩
theorem specReach_l1 (n : Nat) (hn : n ≤ 6) (es : List E) (hl : es.length ≤ 12) (hes : ∀ e ∈ es, EOk n e) (a : Nat) (u : Int) {Q : List Int → Prop}
    (hk : ∀ q, BInv es n q a es.length u → Ep (fun k => spec_l02Reach.l0 k q ((a + 1 : Nat) : Int) (n : Int) es) Q) :
    ∀ (d i : Nat) (q : List Int), i + d = es.length → BInv es n q a i u → Ep (fun k => spec_l02Reach.l1 k q (a : Int) es (es.length : Int) (i : Int) (n : Int) es) Q := by
  intro d
  induction d with
  | zero =>
    intro i q hi hb
    refine Ep.up ?_
    simp only [spec_l02Reach.l1]
    refine Ep.neg (by omega) ?_
    have := hb.lt
    have := hb.len
    rw [wrap_succ (by omega)]
    have e : i = es.length := by omega
    subst e
    exact hk q hb
  | succ d ih =>
    intro i q hi hb
    have hlt : i < es.length := by omega
    have hal := hb.lt
    have hql := hb.len
    have he := hes es[i] (List.getElem_mem hlt)
    have heok := he
    unfold EOk at he
    have hadj : Adj es es[i].f0 es[i].f1 := ⟨es[i], List.getElem_mem hlt, .inl ⟨rfl, rfl⟩⟩
    -- the second test, behind the first
    have second : ∀ q', BInv es n q' a i u → (es[i].f0 = u → es[i].f1 ∈ q') → Ep (fun k => if (0 : Int) ≤ (a : Int) then (if (a : Int) < (q'.length : Int) then (if es[i].f1 = rd q' (a : Int) then ((spec_l02Has.f k q' es[i].f0).bind fun t => (if t = true then (spec_l02Reach.l1 k q' (a : Int) es (es.length : Int) (wrap64 ((i : Int) + 1)) (n : Int) es) else (if q'.length < 17592186044416 then (spec_l02Reach.l1 k (q' ++ [es[i].f0]) (a : Int) es (es.length : Int) (wrap64 ((i : Int) + 1)) (n : Int) es) else (none)))) else (spec_l02Reach.l1 k q' (a : Int) es (es.length : Int) (wrap64 ((i : Int) + 1)) (n : Int) es)) else (none)) else (none)) Q := by
      intro q' hb' h0
      have hal' := hb'.lt
      have hql' := hb'.len
      refine Ep.pos (by omega) (Ep.pos (by omega) ?_)
      rw [hb'.rd, wrap_succ (by omega)]
      refine Ep.ite (fun h1 => ?_) (fun h1 => ih (i + 1) q' (by omega) (hb'.next hlt h0 (fun x => absurd x h1)))
      refine Ep.bind (specHas q' _ (by omega)) ?_
      rintro _ rfl
      refine Ep.ite (fun h2 => ih (i + 1) q' (by omega) (hb'.next hlt h0 (fun _ => by simpa using h2))) (fun h2 => Ep.pos (by omega) ?_)
      have h2' : es[i].f0 ∉ q' := by simpa using h2
      have hb2 := hb'.push hes h2' (by rw [← h1]; exact hadj.symm)
      exact ih (i + 1) _ (by omega) (hb2.next hlt (fun x => List.mem_append_left _ (h0 x)) (fun _ => by simp))
    refine Ep.up ?_
    simp only [spec_l02Reach.l1]
    refine Ep.pos (by omega) (Ep.pos (by omega) (Ep.pos (by omega) (Ep.pos (by omega) (Ep.pos (by omega) ?_))))
    rw [rdE_get hlt, hb.rd]
    refine Ep.ite (fun h0 => ?_) (fun h0 => ?_)
    · refine Ep.bind (specHas q _ (by omega)) ?_
      rintro _ rfl
      refine Ep.up ?_
      simp only [spec_l02Reach.j2]
      refine Ep.ite (fun h1 => Ep.pos (by omega) ?_) (fun h1 => second q hb (fun _ => by simpa using h1))
      have h1' : es[i].f1 ∉ q := by simpa using h1
      refine Ep.bind0 rfl ?_
      exact second _ (hb.push hes h1' (by rw [← h0]; exact hadj)) (fun _ => by simp)
    · refine Ep.up ?_
      simp only [spec_l02Reach.j2]
      exact Ep.neg (by simp) (second q hb (fun x => absurd x h0))
theorem specReach_l0 (n : Nat) (hn : 1 ≤ n ∧ n ≤ 6) (es : List E) (hl : es.length ≤ 12) (hes : ∀ e ∈ es, EOk n e) : ∀ (d a : Nat) (q : List Int), a + d = 7 → a ≤ q.length → QOk es n q → (0 : Int) ∈ q → (∀ x ∈ q.take a, ∀ b, Adj es x b → b ∈ q) →
    Ep (fun k => spec_l02Reach.l0 k q (a : Int) (n : Int) es) (fun r => (r.length = n ↔ Joined n es) ∧ r.length ≤ 6) := by
  intro d
  induction d with
  | zero =>
    intro a q ha hq hok _ _
    have := nodup_len n q hok.1 (fun v hv => (hok.2 v hv).1)
    omega
  | succ d ih =>
    intro a q ha hq hok h0 hdone
    have hlen := nodup_len n q hok.1 (fun v hv => (hok.2 v hv).1)
    refine Ep.up ?_
    simp only [spec_l02Reach.l0]
    refine Ep.ite (fun hlt => ?_) (fun hge => Ep.now ?_)
    · have hlt' : a < q.length := by omega
      have hb : BInv es n q a 0 q[a] := ⟨hok, h0, hdone, List.getElem?_eq_getElem hlt', fun e he => by simp at he⟩
      refine specReach_l1 n hn.2 es hl hes a q[a] ?_ es.length 0 q (by omega) hb
      intro q' hb'
      refine ih (a + 1) q' (by omega) (by have := hb'.lt; omega) hb'.ok hb'.zero ?_
      intro x hx b hadj
      have hal := hb'.lt
      rw [List.take_succ_eq_append_getElem hal] at hx
      rcases List.mem_append.1 hx with hx | hx
      · exact hb'.done x hx b hadj
      · have hx' : x = q'[a] := List.mem_singleton.1 hx
        have hu : q'[a] = q[a] := by
          have := hb'.at_
          rw [List.getElem?_eq_getElem hal] at this
          exact Option.some.inj this
        obtain ⟨e, he, h⟩ := hadj
        have hp := hb'.part e (by rw [List.take_of_length_le (Nat.le_refl _)]; exact he)
        rcases h with ⟨x0, x1⟩ | ⟨x0, x1⟩
        · rw [← x1]
          exact hp.1 (by rw [x0, hx', hu])
        · rw [← x0]
          exact hp.2 (by rw [x1, hx', hu])
    · have hfull : q.take a = q := List.take_of_length_le (by omega)
      rw [hfull] at hdone
      exact ⟨queue_joined hn.1 hok h0 hdone, by omega⟩
theorem specReach (n : Nat) (hn : 1 ≤ n ∧ n ≤ 6) (es : List E) (hl : es.length ≤ 12) (hes : ∀ e ∈ es, EOk n e) : Ep (fun k => spec_l02Reach.f k (n : Int) es) (fun r => (r.length = n ↔ Joined n es) ∧ r.length ≤ 6) := by
  simp only [spec_l02Reach.f]
  refine specReach_l0 n hn es hl hes 7 0 [0] rfl (by simp) ⟨by simp, fun v hv => ?_⟩ (by simp) (fun x hx => by simp at hx)
  rw [List.mem_singleton.1 hv]
  exact ⟨⟨Int.le_refl _, by omega⟩, .refl⟩
/-- Sorted up to an edge. -/
def SortedTo (es : List E) (i : Nat) : Prop := ∀ j, (h : j + 1 < es.length) → j + 1 < i → leE es[j] es[j + 1]
theorem specGraph_l0 (n : Nat) (es : List E) (hes : EsOk n es) : ∀ (d i : Nat), i + d = es.length → SortedTo es i → Ep (fun k => spec_GraphOk.l0 k es (es.length : Int) (i : Int) (n : Int) es) (· = gOk n es) := by
  have hes' := hes
  obtain ⟨hn1, hn6, hl, hok⟩ := hes
  intro d
  induction d with
  | zero =>
    intro i hi hs
    refine Ep.up ?_
    simp only [spec_GraphOk.l0]
    refine Ep.neg (by omega) ?_
    refine Ep.bind (specReach n (by omega) es hl hok) ?_
    rintro r ⟨hr, _⟩
    refine Ep.now ?_
    have hsorted : Sorted es := fun j h => hs j h (by omega)
    have hiff : GOk n es ↔ Joined n es := ⟨fun h => h.2.2, fun h => ⟨hes', hsorted, h⟩⟩
    by_cases hj : Joined n es
    · have : gOk n es = true := gOk_iff.2 (hiff.2 hj)
      rw [this, hr.2 hj]
      simp
    · have : gOk n es = false := by
        cases hg : gOk n es with
        | false => rfl
        | true => exact absurd (hiff.1 (gOk_iff.1 hg)) hj
      rw [this]
      have hne : r.length ≠ n := fun e => hj (hr.1 e)
      simp
      omega
  | succ d ih =>
    intro i hi hs
    have hlt : i < es.length := by omega
    have hbad : ∀ j, i = j + 1 → (hj : j < es.length) → ¬ leE es[j] es[i] → gOk n es = false := by
      intro j hij hj hx
      subst hij
      cases hg : gOk n es with
      | false => rfl
      | true => exact absurd ((gOk_iff.1 hg).2.1 j hlt) hx
    have hgood : (∀ j, i = j + 1 → (hj : j < es.length) → leE es[j] es[i]) → Ep (fun k => spec_GraphOk.l0 k es (es.length : Int) (wrap64 ((i : Int) + 1)) (n : Int) es) (· = gOk n es) := by
      intro hx
      rw [wrap_succ (by omega)]
      refine ih (i + 1) (by omega) ?_
      intro j h hji
      by_cases e : j + 1 < i
      · exact hs j h e
      · have e' : i = j + 1 := by omega
        have := hx j e' (by omega)
        subst e'
        exact this
    refine Ep.up ?_
    simp only [spec_GraphOk.l0]
    refine Ep.pos (by omega) (Ep.pos (by omega) (Ep.pos (by omega) ?_))
    refine Ep.ite (fun hpos => ?_) (fun hz => hgood (fun j hij _ => by omega))
    obtain ⟨j, rfl⟩ : ∃ j, i = j + 1 := ⟨i - 1, by omega⟩
    have hw : wrap64 (((j + 1 : Nat) : Int) - 1) = (j : Int) := by rw [wrap_id (by omega) (by omega)]; omega
    rw [hw, rdE_get hlt, rdE_get (show j < es.length by omega)]
    refine Ep.pos (by omega) (Ep.pos (by omega) ?_)
    refine Ep.ite (fun h0 => Ep.now ?_) (fun h0 => ?_)
    · exact (hbad j rfl (by omega) (by unfold leE; omega)).symm
    · refine Ep.ite (fun h1 => ?_) (fun h1 => hgood (fun j' hij _ => ?_))
      · refine Ep.ite (fun h2 => Ep.now ?_) (fun h2 => hgood (fun j' hij _ => ?_))
        · exact (hbad j rfl (by omega) (by unfold leE; omega)).symm
        · obtain rfl : j' = j := by omega
          unfold leE
          omega
      · obtain rfl : j' = j := by omega
        unfold leE
        omega
theorem specGraph (n : Int) (es : List E) : Ep (fun k => spec_GraphOk.f k n es) (· = gOk n es) := by
  simp only [spec_GraphOk.f]
  refine Ep.bind (specEdges n es) ?_
  rintro _ rfl
  refine Ep.ite (fun h => ?_) (fun h => Ep.now ?_)
  · have h' : EsOk n es := by simpa using h
    have h1 := h'.1
    obtain ⟨m, rfl⟩ := Int.eq_ofNat_of_zero_le (a := n) (by omega)
    exact specGraph_l0 m es h' es.length 0 (by omega) (fun j h hj => by omega)
  · have h' : ¬ EsOk n es := by simpa using h
    cases hg : gOk n es with
    | false => rfl
    | true => exact absurd (gOk_iff.1 hg).1 h'
end Go.Proofs.Ytgobnfeahffnaaa.Cf
end

section
namespace Go.Proofs.Ytgobnfeahffnaaa.Cf
set_option linter.unusedVariables false
set_option linter.unusedSimpArgs false
open Go.RowKit Go.Proofs.YtgobnfeahffnaaaW.PrintWords Go.Proofs.YtgobnfeahffnaaaW.PrintMore Go.Proofs.Ytgobnfeahffnaaa.P
theorem within_eq (a b c : Int) : impl_within.f a b c = some (decide (b ≤ a ∧ a ≤ c)) := by
  unfold impl_within.f
  by_cases h : a ≥ b
  · rw [if_pos h]
    have : (b ≤ a ∧ a ≤ c) ↔ a ≤ c := ⟨fun x => x.2, fun x => ⟨h, x⟩⟩
    simp only [this]
  · rw [if_neg h]
    have : ¬ (b ≤ a ∧ a ≤ c) := fun x => h x.1
    simp only [this, decide_false]
theorem implEdges_l0 (n : Int) (es : List E) (hl : es.length ≤ 12) : ∀ (d i : Nat), i + d = es.length → Ep (fun k => impl_EdgesOk.l0 k es (es.length : Int) (i : Int) n es) (· = decide (∀ e ∈ es.drop i, EOk n e)) := by
  intro d
  induction d with
  | zero =>
    intro i hi
    refine Ep.up ?_
    simp only [impl_EdgesOk.l0]
    refine Ep.neg (by omega) (Ep.now ?_)
    rw [List.drop_of_length_le (by omega)]
    simp
  | succ d ih =>
    intro i hi
    have hlt : i < es.length := by omega
    have no : ¬ EOk n es[i] → false = decide (∀ e ∈ es.drop i, EOk n e) := fun h => by simp only [forall_drop hlt, h, false_and, decide_false]
    refine Ep.up ?_
    simp only [impl_EdgesOk.l0]
    refine Ep.pos (by omega) (Ep.pos (by omega) (Ep.pos (by omega) ?_))
    rw [rdE_get hlt]
    refine Ep.ite (fun h => Ep.now (no (by unfold EOk; omega))) (fun h0 => ?_)
    refine Ep.ite (fun h => Ep.now (no (by unfold EOk; omega))) (fun h1 => ?_)
    refine Ep.ite (fun h => Ep.now (no (by unfold EOk; omega))) (fun h2 => ?_)
    rw [wrap_succ (by omega)]
    refine (ih (i + 1) (by omega)).mono ?_
    rintro _ rfl
    have : EOk n es[i] := by unfold EOk; omega
    simp only [forall_drop hlt, this, true_and]
theorem implEdges (n : Int) (es : List E) : Ep (fun k => impl_EdgesOk.f k n es) (· = decide (EsOk n es)) := by
  simp only [impl_EdgesOk.f]
  refine Ep.bind0 (within_eq _ _ _) ?_
  refine Ep.ite (fun h0 => ?_) (fun h0 => ?_)
  · have h0' : 1 ≤ n ∧ n ≤ 6 := by simpa using h0
    refine Ep.up ?_
    simp only [impl_EdgesOk.j0]
    refine Ep.ite (fun h1 => Ep.now ?_) (fun h1 => ?_)
    · have : ¬ EsOk n es := by
        have : (es.length : Int) > 12 := by simpa using h1
        unfold EsOk
        omega
      simp [this]
    · have hl : es.length ≤ 12 := by
        have : ¬ (es.length : Int) > 12 := by simpa using h1
        omega
      refine (implEdges_l0 n es hl es.length 0 (by omega)).mono ?_
      rintro _ rfl
      rw [List.drop_zero]
      unfold EsOk
      simp only [h0'.1, h0'.2, hl, true_and]
  · have h0' : ¬ (1 ≤ n ∧ n ≤ 6) := by simpa using h0
    refine Ep.up ?_
    simp only [impl_EdgesOk.j0]
    refine Ep.pos (by simp) (Ep.now ?_)
    have : ¬ EsOk n es := by
      unfold EsOk
      omega
    simp [this]
theorem wraps_i64 (n : Int) (h0 : 0 ≤ n) (h1 : n < 2 ^ 62) : IntKind.i64.wrap n = n := by rw [IntKind.wrap_i64]; omega
theorem or_nat {a b : Nat} (ha : a < 2 ^ 62) (hb : b < 2 ^ 62) : Go.bits .or .i64 (a : Int) (b : Int) = ((a ||| b : Nat) : Int) := (bits_nat .i64 62 (by decide) wraps_i64 a b ha hb).2
theorem and_nat {a b : Nat} (ha : a < 2 ^ 62) (hb : b < 2 ^ 62) : Go.bits .and .i64 (a : Int) (b : Int) = ((a &&& b : Nat) : Int) := (bits_nat .i64 62 (by decide) wraps_i64 a b ha hb).1
theorem shl_nat {a : Nat} (ha : a < 62) : shl .i64 1 (a : Int) = ((2 ^ a : Nat) : Int) := by
  unfold shl
  have : (2 : Int) ^ a < 2 ^ 62 := by
    have := Nat.pow_lt_pow_right (a := 2) (by decide) ha
    exact_mod_cast this
  rw [Int.toNat_natCast, Nat.min_eq_left (by show a ≤ 64; omega), Int.one_mul, wraps_i64 _ (by have := Int.pow_nonneg (n := 2) (m := a) (by decide); omega) this]
  simp
theorem shr_nat {m a : Nat} (ha : a < 62) : shr .i64 (m : Int) (a : Int) = ((m / 2 ^ a : Nat) : Int) := by
  unfold shr
  rw [Int.toNat_natCast, Nat.min_eq_left (by show a ≤ 64; omega)]
  simp
/-- The test of a bit. -/
theorem bit_test {m : Nat} (hm : m < 2 ^ 62) {a : Nat} (ha : a < 62) : Go.bits .and .i64 (shr .i64 (m : Int) (a : Int)) 1 = 1 ↔ m.testBit a = true := by
  rw [shr_nat ha, show (1 : Int) = ((1 : Nat) : Int) from rfl, and_nat (Nat.lt_of_le_of_lt (Nat.div_le_self _ _) hm) (by decide)]
  rw [Nat.testBit_eq_decide_div_mod_eq, Nat.and_one_is_mod]
  generalize m / 2 ^ a = x
  simp only [decide_eq_true_eq]
  omega
theorem bit_cases {m a : Nat} : m.testBit a = true ∨ m.testBit a = false := by cases m.testBit a <;> simp
theorem step_lt {m : Nat} {e : E} {n : Int} (hm : m < 2 ^ 6) (he : EOk n e) (hn : n ≤ 6) : stepM m e < 2 ^ 6 := by
  unfold EOk at he
  unfold stepM
  split
  · apply Nat.or_lt_two_pow hm
    apply Nat.or_lt_two_pow
    · exact Nat.pow_lt_pow_right (by decide) (by omega)
    · exact Nat.pow_lt_pow_right (by decide) (by omega)
  · exact hm
theorem round_lt {n : Int} (hn : n ≤ 6) : ∀ (es : List E), (∀ e ∈ es, EOk n e) → ∀ {m : Nat}, m < 2 ^ 6 → roundM es m < 2 ^ 6 := by
  intro es
  induction es with
  | nil => intro _ m h; exact h
  | cons e r ih => intro hes m h; exact ih (fun x hx => hes x (List.mem_cons_of_mem _ hx)) (step_lt h (hes e List.mem_cons_self) hn)
open Classical in
noncomputable def joinedB (n : Int) (es : List E) : Bool := decide (Joined n es)
theorem joinedB_iff {n : Int} {es : List E} : joinedB n es = true ↔ Joined n es := by unfold joinedB; simp
theorem implConn_l1 (n : Int) (hn : n ≤ 6) (es : List E) (hl : es.length ≤ 1048576) (hes : ∀ e ∈ es, EOk n e) (x8 x9 : Int) {Q : Bool → Prop} (m0 : Nat)
    (hk : Ep (fun k => impl_connected.l0 k n es ((roundM es m0 : Nat) : Int) x8 (wrap64 (x9 + 1))) Q) :
    ∀ (d i : Nat) (m : Nat), i + d = es.length → m < 2 ^ 6 → roundM (es.drop i) m = roundM es m0 → Ep (fun k => impl_connected.l1 k n es (m : Int) x8 x9 es (es.length : Int) (i : Int)) Q := by
  intro d
  induction d with
  | zero =>
    intro i m hi hm hr
    refine Ep.up ?_
    simp only [impl_connected.l1]
    refine Ep.neg (by omega) ?_
    rw [List.drop_of_length_le (by omega)] at hr
    have e : m = roundM es m0 := hr
    rw [e]
    exact hk
  | succ d ih =>
    intro i m hi hm hr
    have hlt : i < es.length := by omega
    have hek := hes es[i] (List.getElem_mem hlt)
    have he := hek
    unfold EOk at he
    rw [List.drop_eq_getElem_cons hlt] at hr
    have hr' : roundM (es.drop (i + 1)) (stepM m es[i]) = roundM es m0 := hr
    have hst := step_lt hm hek hn
    obtain ⟨a, ha⟩ := Int.eq_ofNat_of_zero_le he.1
    obtain ⟨b, hb⟩ := Int.eq_ofNat_of_zero_le (a := es[i].f1) (by omega)
    have ha6 : a < 6 := by omega
    have hb6 : b < 6 := by omega
    have hm62 : m < 2 ^ 62 := by omega
    have pa : 2 ^ a < 2 ^ 6 := Nat.pow_lt_pow_right (by decide) ha6
    have pb : 2 ^ b < 2 ^ 6 := Nat.pow_lt_pow_right (by decide) hb6
    have pab : 2 ^ a ||| 2 ^ b < 2 ^ 6 := Nat.or_lt_two_pow pa pb
    have hset : Go.bits .or .i64 (m : Int) (Go.bits .or .i64 (shl .i64 1 (a : Int)) (shl .i64 1 (b : Int))) = ((m ||| (2 ^ a ||| 2 ^ b) : Nat) : Int) := by
      rw [shl_nat (by omega), shl_nat (by omega), or_nat (by omega) (by omega), or_nat (by omega) (by omega)]
    have hstep : (m.testBit a || m.testBit b) = true → stepM m es[i] = m ||| (2 ^ a ||| 2 ^ b) := by
      intro h
      unfold stepM
      rw [ha, hb]
      simp only [Int.ofNat_eq_natCast, Int.toNat_natCast]
      rw [if_pos h]
    have hstay : (m.testBit a || m.testBit b) = false → stepM m es[i] = m := by
      intro h
      unfold stepM
      rw [ha, hb]
      simp only [Int.ofNat_eq_natCast, Int.toNat_natCast]
      rw [if_neg (by rw [h]; simp)]
    refine Ep.up ?_
    simp only [impl_connected.l1]
    refine Ep.pos (by omega) (Ep.pos (by omega) (Ep.pos (by omega) ?_))
    rw [rdE_get hlt, ha, hb]
    refine Ep.pos (by omega) ?_
    rw [hset, wrap_succ (by omega)]
    refine Ep.ite (fun h => Ep.pos (by omega) ?_) (fun h => Ep.pos (by omega) (Ep.ite (fun h2 => ?_) (fun h2 => ?_)))
    · have := (bit_test hm62 (by omega)).1 h
      rw [← hstep (by rw [this]; rfl)]
      exact ih (i + 1) _ (by omega) hst hr'
    · have := (bit_test hm62 (by omega)).1 h2
      rw [← hstep (by rw [this]; simp)]
      exact ih (i + 1) _ (by omega) hst hr'
    · have h1 : m.testBit a = false := by
        rcases bit_cases (m := m) (a := a) with x | x
        · exact absurd ((bit_test hm62 (by omega)).2 x) h
        · exact x
      have h3 : m.testBit b = false := by
        rcases bit_cases (m := m) (a := b) with x | x
        · exact absurd ((bit_test hm62 (by omega)).2 x) h2
        · exact x
      have := hstay (by rw [h1, h3]; rfl)
      rw [this] at hr'
      exact ih (i + 1) _ (by omega) hm hr'
theorem implConn_l0 (n : Nat) (hn : 1 ≤ n ∧ n ≤ 6) (es : List E) (hl : es.length ≤ 1048576) (hes : ∀ e ∈ es, EOk n e) : ∀ (d i m : Nat), i + d = n → m < 2 ^ 6 → timesM es d m = timesM es n 1 → Ep (fun k => impl_connected.l0 k (n : Int) es (m : Int) (n : Int) (i : Int)) (· = joinedB n es) := by
  intro d
  induction d with
  | zero =>
    intro i m hi hm hr
    refine Ep.up ?_
    simp only [impl_connected.l0]
    refine Ep.neg (by omega) (Ep.pos (by omega) (Ep.now ?_))
    have hr' : m = timesM es n 1 := hr
    have hp : 1 ≤ 2 ^ n := Nat.one_le_two_pow
    have hp2 : 2 ^ n ≤ 2 ^ 6 := Nat.pow_le_pow_right (by decide) hn.2
    rw [shl_nat (by omega), wrap_id (by omega) (by omega)]
    rw [Bool.eq_iff_iff, joinedB_iff, ← times_joined hn.1 hes, ← hr']
    simp only [beq_iff_eq]
    omega
  | succ d ih =>
    intro i m hi hm hr
    refine Ep.up ?_
    simp only [impl_connected.l0]
    refine Ep.pos (by omega) ?_
    refine implConn_l1 n (by omega) es hl hes _ _ m ?_ es.length 0 m (by omega) hm (by rw [List.drop_zero])
    rw [wrap_succ (by omega)]
    exact ih (i + 1) _ (by omega) (round_lt (by omega) es hes hm) hr
theorem implConn (n : Nat) (hn : 1 ≤ n ∧ n ≤ 6) (es : List E) (hl : es.length ≤ 1048576) (hes : ∀ e ∈ es, EOk n e) : Ep (fun k => impl_connected.f k (n : Int) es) (· = joinedB n es) := by
  simp only [impl_connected.f]
  exact implConn_l0 n hn es hl hes n 0 1 (by omega) (by decide) rfl
end Go.Proofs.Ytgobnfeahffnaaa.Cf
end

section
namespace Go.Proofs.Ytgobnfeahffnaaa.P
open Go.RowKit Go.Proofs.YtgobnfeahffnaaaW.PrintWords Go.Proofs.YtgobnfeahffnaaaW.PrintLast Go.Proofs.YtgobnfeahffnaaaW.PrintMore
attribute [local go_sem] max2_int min2_int max_two min_two max_three min_three max_four min_four
set_option linter.unusedVariables false
set_option linter.unusedSimpArgs false
def cmp_isNaN_int.f (a0 : Int) : Option (Bool) := some (a0 != a0)
set_option maxHeartbeats 8000000 in
set_option maxRecDepth 100000 in
theorem cmp_isNaN_int.calls (a0 : Int) (r : Bool) (w : World) (h : cmp_isNaN_int.f a0 = some r) :
  Calls Try.prog 122 #[.int .i64 a0] w fun e w' => e = .returned (.bool r) ∧ Drawn0 w w' := by
 have H : (some (a0 != a0)) = some r := h; clear h; obtain rfl := Option.some.inj H; go_enter Try.func122, Try.ntmps122; go_wp2; go_ret; exact ⟨zz7, by repeat (first | exact Drawn0.refl _ | apply Drawn0.step)⟩
def cmp_Compare_int.f (a0 : Int) (a1 : Int) : Option (Int) := (cmp_isNaN_int.f a0).bind fun t101 => ((cmp_isNaN_int.f a1).bind fun t102 => (if t101 = true then (if t102 = true then (some 0) else (some (-1))) else (if t102 = true then (some 1) else (if a0 < a1 then (some (-1)) else (if a0 > a1 then (some 1) else (some 0))))))
set_option maxHeartbeats 8000000 in
set_option maxRecDepth 100000 in
theorem cmp_Compare_int.calls (a0 : Int) (a1 : Int) (r : Int) (w : World) (h : cmp_Compare_int.f a0 a1 = some r) :
  Calls Try.prog 120 #[.int .i64 a0, .int .i64 a1] w fun e w' => e = .returned (.int .i64 r) ∧ Drawn0 w w' := by
 have H : ((cmp_isNaN_int.f a0).bind fun t101 => ((cmp_isNaN_int.f a1).bind fun t102 => (if t101 = true then (if t102 = true then (some 0) else (some (-1))) else (if t102 = true then (some 1) else (if a0 < a1 then (some (-1)) else (if a0 > a1 then (some 1) else (some 0))))))) = some r := h; clear h; replace H := Option.bind_eq_some_iff.mp H; obtain ⟨t101, A30, H⟩ := H; (try dsimp only at H); have A3 := Aside0.mk A30; clear A30; replace H := Option.bind_eq_some_iff.mp H; obtain ⟨t102, A40, H⟩ := H; (try dsimp only at H); have A4 := Aside0.mk A40; clear A40; by_cases c5 : t101 = true
 ·subst c5; rw [if_pos rfl] at H; by_cases c6 : t102 = true
  ·subst c6; rw [if_pos rfl] at H; obtain rfl := Option.some.inj H; go_enter Try.func120, Try.ntmps120; (go_wp2_with (first | ((with_reducible refine gate_callee (f := 122) rfl ?_); refine goesL_ (some 8) rfl rfl Try.func122 (by kernel_rfl) rfl #[.int .i64 a0] rfl zz3 ?_; (with_reducible refine (cmp_isNaN_int.calls a0 true _ A3.out).mono ?_); rintro e w' ⟨rfl, ⟨nd, rfl⟩⟩; refine ⟨_, rfl, ?_⟩) | ((with_reducible refine gate_callee (f := 122) rfl ?_); refine goesL_ (some 10) rfl rfl Try.func122 (by kernel_rfl) rfl #[.int .i64 a1] rfl zz3 ?_; (with_reducible refine (cmp_isNaN_int.calls a1 true _ A4.out).mono ?_); rintro e w' ⟨rfl, ⟨nd, rfl⟩⟩; refine ⟨_, rfl, ?_⟩))); go_ret; exact ⟨zz7, by repeat (first | exact Drawn0.refl _ | apply Drawn0.step)⟩
  replace c6 := Bool.eq_false_iff.mpr c6; subst c6; rw [if_neg (show ¬ (false = true) by decide)] at H; obtain rfl := Option.some.inj H; go_enter Try.func120, Try.ntmps120; (go_wp2_with (first | ((with_reducible refine gate_callee (f := 122) rfl ?_); refine goesL_ (some 8) rfl rfl Try.func122 (by kernel_rfl) rfl #[.int .i64 a0] rfl zz3 ?_; (with_reducible refine (cmp_isNaN_int.calls a0 true _ A3.out).mono ?_); rintro e w' ⟨rfl, ⟨nd, rfl⟩⟩; refine ⟨_, rfl, ?_⟩) | ((with_reducible refine gate_callee (f := 122) rfl ?_); refine goesL_ (some 10) rfl rfl Try.func122 (by kernel_rfl) rfl #[.int .i64 a1] rfl zz3 ?_; (with_reducible refine (cmp_isNaN_int.calls a1 false _ A4.out).mono ?_); rintro e w' ⟨rfl, ⟨nd, rfl⟩⟩; refine ⟨_, rfl, ?_⟩))); go_ret; exact ⟨zz7, by repeat (first | exact Drawn0.refl _ | apply Drawn0.step)⟩
 replace c5 := Bool.eq_false_iff.mpr c5; subst c5; rw [if_neg (show ¬ (false = true) by decide)] at H; by_cases c7 : t102 = true
 ·subst c7; rw [if_pos rfl] at H; obtain rfl := Option.some.inj H; go_enter Try.func120, Try.ntmps120; (go_wp2_with (first | ((with_reducible refine gate_callee (f := 122) rfl ?_); refine goesL_ (some 8) rfl rfl Try.func122 (by kernel_rfl) rfl #[.int .i64 a0] rfl zz3 ?_; (with_reducible refine (cmp_isNaN_int.calls a0 false _ A3.out).mono ?_); rintro e w' ⟨rfl, ⟨nd, rfl⟩⟩; refine ⟨_, rfl, ?_⟩) | ((with_reducible refine gate_callee (f := 122) rfl ?_); refine goesL_ (some 10) rfl rfl Try.func122 (by kernel_rfl) rfl #[.int .i64 a1] rfl zz3 ?_; (with_reducible refine (cmp_isNaN_int.calls a1 true _ A4.out).mono ?_); rintro e w' ⟨rfl, ⟨nd, rfl⟩⟩; refine ⟨_, rfl, ?_⟩))); go_ret; exact ⟨zz7, by repeat (first | exact Drawn0.refl _ | apply Drawn0.step)⟩
 replace c7 := Bool.eq_false_iff.mpr c7; subst c7; rw [if_neg (show ¬ (false = true) by decide)] at H; by_cases c8 : a0 < a1
 ·rw [if_pos c8] at H; have c8b0 := decide_eq_true c8; clear c8; obtain rfl := Option.some.inj H; go_enter Try.func120, Try.ntmps120; (go_wp2_with (first | ((with_reducible refine gate_callee (f := 122) rfl ?_); refine goesL_ (some 8) rfl rfl Try.func122 (by kernel_rfl) rfl #[.int .i64 a0] rfl zz3 ?_; (with_reducible refine (cmp_isNaN_int.calls a0 false _ A3.out).mono ?_); rintro e w' ⟨rfl, ⟨nd, rfl⟩⟩; refine ⟨_, rfl, ?_⟩) | ((with_reducible refine gate_callee (f := 122) rfl ?_); refine goesL_ (some 10) rfl rfl Try.func122 (by kernel_rfl) rfl #[.int .i64 a1] rfl zz3 ?_; (with_reducible refine (cmp_isNaN_int.calls a1 false _ A4.out).mono ?_); rintro e w' ⟨rfl, ⟨nd, rfl⟩⟩; refine ⟨_, rfl, ?_⟩))); go_ret; exact ⟨zz7, by repeat (first | exact Drawn0.refl _ | apply Drawn0.step)⟩
 rw [if_neg c8] at H; have c8b0 := decide_eq_false c8; clear c8; by_cases c9 : a0 > a1
 ·rw [if_pos c9] at H; have c9b0 : decide (a1 < a0) = true := decide_eq_true c9; clear c9; obtain rfl := Option.some.inj H; go_enter Try.func120, Try.ntmps120; (go_wp2_with (first | ((with_reducible refine gate_callee (f := 122) rfl ?_); refine goesL_ (some 8) rfl rfl Try.func122 (by kernel_rfl) rfl #[.int .i64 a0] rfl zz3 ?_; (with_reducible refine (cmp_isNaN_int.calls a0 false _ A3.out).mono ?_); rintro e w' ⟨rfl, ⟨nd, rfl⟩⟩; refine ⟨_, rfl, ?_⟩) | ((with_reducible refine gate_callee (f := 122) rfl ?_); refine goesL_ (some 10) rfl rfl Try.func122 (by kernel_rfl) rfl #[.int .i64 a1] rfl zz3 ?_; (with_reducible refine (cmp_isNaN_int.calls a1 false _ A4.out).mono ?_); rintro e w' ⟨rfl, ⟨nd, rfl⟩⟩; refine ⟨_, rfl, ?_⟩))); go_ret; exact ⟨zz7, by repeat (first | exact Drawn0.refl _ | apply Drawn0.step)⟩
 rw [if_neg c9] at H; have c9b0 : decide (a1 < a0) = false := decide_eq_false c9; clear c9; obtain rfl := Option.some.inj H; go_enter Try.func120, Try.ntmps120; (go_wp2_with (first | ((with_reducible refine gate_callee (f := 122) rfl ?_); refine goesL_ (some 8) rfl rfl Try.func122 (by kernel_rfl) rfl #[.int .i64 a0] rfl zz3 ?_; (with_reducible refine (cmp_isNaN_int.calls a0 false _ A3.out).mono ?_); rintro e w' ⟨rfl, ⟨nd, rfl⟩⟩; refine ⟨_, rfl, ?_⟩) | ((with_reducible refine gate_callee (f := 122) rfl ?_); refine goesL_ (some 10) rfl rfl Try.func122 (by kernel_rfl) rfl #[.int .i64 a1] rfl zz3 ?_; (with_reducible refine (cmp_isNaN_int.calls a1 false _ A4.out).mono ?_); rintro e w' ⟨rfl, ⟨nd, rfl⟩⟩; refine ⟨_, rfl, ?_⟩))); go_ret; exact ⟨zz7, by repeat (first | exact Drawn0.refl _ | apply Drawn0.step)⟩
def impl_compareEdges.f (a0_0 : Int) (a0_1 : Int) (a1_0 : Int) (a1_1 : Int) : Option (Int) := (cmp_Compare_int.f a0_0 a1_0).bind fun t103 => (if t103 = 0 then ((cmp_Compare_int.f a0_1 a1_1).bind fun t104 => (some t104)) else (some t103))
set_option maxHeartbeats 8000000 in
set_option maxRecDepth 100000 in
theorem impl_compareEdges.calls (a0_0 : Int) (a0_1 : Int) (a1_0 : Int) (a1_1 : Int) (r : Int) (w : World) (h : impl_compareEdges.f a0_0 a0_1 a1_0 a1_1 = some r) :
  Calls Try.prog 112 #[.agg #[.int .i64 a0_0, .int .i64 a0_1], .agg #[.int .i64 a1_0, .int .i64 a1_1]] w fun e w' => e = .returned (.int .i64 r) ∧ Below w.heap.size w w' := by
 have hu83 := Try.underlying83; have HB := Aside0.mk (Below.refl w.heap.size w); have H : ((cmp_Compare_int.f a0_0 a1_0).bind fun t103 => (if t103 = 0 then ((cmp_Compare_int.f a0_1 a1_1).bind fun t104 => (some t104)) else (some t103))) = some r := h; clear h; replace H := Option.bind_eq_some_iff.mp H; obtain ⟨t103, A30, H⟩ := H; (try dsimp only at H); have A3 := Aside0.mk A30; clear A30; by_cases c4 : t103 = 0; rotate_left
 ·rw [if_neg c4] at H; have c4b0 : (t103 == 0) = false := beq_eq_false_iff_ne.mpr c4; have c4b1 : (t103 != 0) = true := bne_iff_ne.mpr c4; obtain rfl := Option.some.inj H; go_enter Try.func112, Try.ntmps112; (go_wp2_with (first | ((with_reducible refine gate_dst (N := 2) rfl ?_); refine box_event ?hg (N := 2) ?hd (cs := #[.int .i64 a0_0, .int .i64 a0_1]) (t := 83) ?hr ?_; (case hd => rfl); (case hg => rfl); (case hr => exact zz19); intro gb101 hg w11 hbox hb; have n_ := zA4 (below_step zz2 hb) hbox (zz15 : w.heap.size ≤ gb101) (zz15 : w.heap.size ≤ gb101); clear HB; obtain ⟨HB, BK101, GW101, GE101⟩ := n_; clear hb hbox hg) | ((with_reducible refine gate_dst (N := 3) rfl ?_); refine box_event ?hg (N := 3) ?hd (cs := #[.int .i64 a1_0, .int .i64 a1_1]) (t := 83) ?hr ?_; (case hd => rfl); (case hg => rfl); (case hr => exact zz19); intro gb102 hg w12 hbox hb; have n_ := zA7 (blk_below (g := gb101) (o := .cells #[.int .i64 a0_0, .int .i64 a0_1] 83 (0, 0)) zz1 hb) (below_step zz0 hb) hbox (zz36 : w.heap.size ≤ gb102) (zz36 : w.heap.size ≤ gb102) (by rw [hg]; exact Nat.ne_of_lt (blk_lt (g := gb101) (o := .cells #[.int .i64 a0_0, .int .i64 a0_1] 83 (0, 0)) zz1) : gb101 ≠ gb102) (by rw [hg]; exact Nat.ne_of_gt (blk_lt (g := gb101) (o := .cells #[.int .i64 a0_0, .int .i64 a0_1] 83 (0, 0)) zz1) : gb102 ≠ gb101); clear BK101 HB; obtain ⟨BK101, HB, BK102, GW102, GE102, NB101_102, NB102_101⟩ := n_; clear hb hbox hg; have hnb13 := NB101_102.out; have hnc13 := NB102_101.out; have hcz14_0 := zC20 BK101; have hcz14_1 := zC21 BK101; have hfz14_0 := blk_frozen BK101.out 0; have hfz14_1 := blk_frozen BK101.out 1; have hcz15_0 := zC20 BK102; have hcz15_1 := zC21 BK102; have hfz15_0 := blk_frozen BK102.out 0; have hfz15_1 := blk_frozen BK102.out 1) | ((with_reducible refine gate_callee (f := 120) rfl ?_); refine goesL_ (some 10) rfl rfl Try.func120 (by kernel_rfl) rfl #[.int .i64 a0_0, .int .i64 a1_0] rfl zz3 ?_; (with_reducible refine (cmp_Compare_int.calls a0_0 a1_0 t103 _ A3.out).mono ?_); rintro e w' ⟨rfl, ⟨nd, rfl⟩⟩; refine ⟨_, rfl, ?_⟩))); go_ret; exact ⟨zz10, zz60⟩
 rw [if_pos c4] at H; have c4b0 : (t103 == 0) = true := beq_iff_eq.mpr c4; have c4b1 : (t103 != 0) = false := bne_eq_false_iff_eq.mpr c4; clear c4; replace H := Option.bind_eq_some_iff.mp H; obtain ⟨t104, A50, H⟩ := H; (try dsimp only at H); have A5 := Aside0.mk A50; clear A50; obtain rfl := Option.some.inj H; go_enter Try.func112, Try.ntmps112; (go_wp2_with (first | ((with_reducible refine gate_dst (N := 2) rfl ?_); refine box_event ?hg (N := 2) ?hd (cs := #[.int .i64 a0_0, .int .i64 a0_1]) (t := 83) ?hr ?_; (case hd => rfl); (case hg => rfl); (case hr => exact zz19); intro gb101 hg w6 hbox hb; have n_ := zA4 (below_step zz2 hb) hbox (zz15 : w.heap.size ≤ gb101) (zz15 : w.heap.size ≤ gb101); clear HB; obtain ⟨HB, BK101, GW101, GE101⟩ := n_; clear hb hbox hg) | ((with_reducible refine gate_dst (N := 3) rfl ?_); refine box_event ?hg (N := 3) ?hd (cs := #[.int .i64 a1_0, .int .i64 a1_1]) (t := 83) ?hr ?_; (case hd => rfl); (case hg => rfl); (case hr => exact zz19); intro gb102 hg w7 hbox hb; have n_ := zA7 (blk_below (g := gb101) (o := .cells #[.int .i64 a0_0, .int .i64 a0_1] 83 (0, 0)) zz1 hb) (below_step zz0 hb) hbox (zz36 : w.heap.size ≤ gb102) (zz36 : w.heap.size ≤ gb102) (by rw [hg]; exact Nat.ne_of_lt (blk_lt (g := gb101) (o := .cells #[.int .i64 a0_0, .int .i64 a0_1] 83 (0, 0)) zz1) : gb101 ≠ gb102) (by rw [hg]; exact Nat.ne_of_gt (blk_lt (g := gb101) (o := .cells #[.int .i64 a0_0, .int .i64 a0_1] 83 (0, 0)) zz1) : gb102 ≠ gb101); clear BK101 HB; obtain ⟨BK101, HB, BK102, GW102, GE102, NB101_102, NB102_101⟩ := n_; clear hb hbox hg; have hnb8 := NB101_102.out; have hnc8 := NB102_101.out; have hcz9_0 := zC20 BK101; have hcz9_1 := zC21 BK101; have hfz9_0 := blk_frozen BK101.out 0; have hfz9_1 := blk_frozen BK101.out 1; have hcz10_0 := zC20 BK102; have hcz10_1 := zC21 BK102; have hfz10_0 := blk_frozen BK102.out 0; have hfz10_1 := blk_frozen BK102.out 1) | ((with_reducible refine gate_callee (f := 120) rfl ?_); refine goesL_ (some 10) rfl rfl Try.func120 (by kernel_rfl) rfl #[.int .i64 a0_0, .int .i64 a1_0] rfl zz3 ?_; (with_reducible refine (cmp_Compare_int.calls a0_0 a1_0 t103 _ A3.out).mono ?_); rintro e w' ⟨rfl, ⟨nd, rfl⟩⟩; refine ⟨_, rfl, ?_⟩) | ((with_reducible refine gate_callee (f := 120) rfl ?_); refine goesL_ (some 18) rfl rfl Try.func120 (by kernel_rfl) rfl #[.int .i64 a0_1, .int .i64 a1_1] rfl zz3 ?_; (with_reducible refine (cmp_Compare_int.calls a0_1 a1_1 t104 _ A5.out).mono ?_); rintro e w' ⟨rfl, ⟨nd, rfl⟩⟩; refine ⟨_, rfl, ?_⟩))); go_ret; exact ⟨zz10, zz60⟩
end Go.Proofs.Ytgobnfeahffnaaa.P
end

section
namespace Go.Proofs.Ytgobnfeahffnaaa.Cf
set_option linter.unusedVariables false
set_option linter.unusedSimpArgs false
open Go.RowKit Go.Proofs.YtgobnfeahffnaaaW.PrintWords Go.Proofs.YtgobnfeahffnaaaW.PrintLast Go.Proofs.YtgobnfeahffnaaaW.PrintMore Go.Proofs.Ytgobnfeahffnaaa.P
def cmpI (a b : Int) : Int := if a < b then -1 else if a > b then 1 else 0
theorem cmp_eq (a b : Int) : cmp_Compare_int.f a b = some (cmpI a b) := by
  unfold cmp_Compare_int.f cmp_isNaN_int.f cmpI
  simp
  split <;> (try split) <;> rfl
def cmpE (a b : E) : Int := if cmpI a.f0 b.f0 = 0 then cmpI a.f1 b.f1 else cmpI a.f0 b.f0
theorem cmpE_eq (a b : E) : impl_compareEdges.f a.f0 a.f1 b.f0 b.f1 = some (cmpE a b) := by
  unfold impl_compareEdges.f cmpE
  rw [cmp_eq, cmp_eq]
  simp only [Option.bind_some]
  split <;> rfl
theorem cmpE_lt (a b : E) : cmpE a b < 0 ↔ ¬ leE b a := by
  unfold cmpE cmpI leE
  by_cases h : a.f0 < b.f0
  · simp [h]; try omega
  · by_cases h2 : a.f0 > b.f0
    · simp [h, h2]; try omega
    · by_cases h3 : a.f1 < b.f1
      · simp [h, h2, h3]; try omega
      · by_cases h4 : a.f1 > b.f1
        · simp [h, h2, h3, h4]; try omega
        · simp [h, h2, h3, h4]; try omega
open Classical in
noncomputable def sortedB (es : List E) : Bool := decide (Sorted es)
theorem sortedB_iff {es : List E} : sortedB es = true ↔ Sorted es := by unfold sortedB; simp
/-- Sorted from an index on. -/
def SortedFrom (es : List E) (i : Nat) : Prop := ∀ j, i ≤ j → (h : j + 1 < es.length) → leE es[j] es[j + 1]
theorem SortedFrom.all {es : List E} (h : SortedFrom es 0) : sortedB es = true := sortedB_iff.2 (fun j hj => h j (Nat.zero_le _) hj)
theorem SortedFrom.none {es : List E} {i : Nat} (h : i + 1 < es.length) (hn : ¬ leE es[i] es[i + 1]) : sortedB es = false := by
  cases hb : sortedB es with
  | false => rfl
  | true => exact absurd (sortedB_iff.1 hb i h) hn
theorem SortedFrom.down {es : List E} {i : Nat} (h : SortedFrom es (i + 1)) (hi : i + 1 < es.length) (hl : leE es[i] es[i + 1]) : SortedFrom es i := by
  intro j hj hjl
  by_cases e : j = i
  · subst e; exact hl
  · exact h j (by omega) hjl
set_option maxHeartbeats 2000000 in
set_option maxRecDepth 100000 in
theorem isf_calls (es : List E) (A : Option Addr) (c : Nat) (w : World) (hr : Kd.C k83 w A es.length es) (hc : es.length ≤ c) :
    Calls Try.prog 111 #[.slice A es.length c, .func (.func 112) #[] #[]] w fun e w' => e = .returned (.bool (sortedB es)) ∧ Below w.heap.size w w' := by
  have hlen := hr.2.1
  have HR := Aside0.mk hr
  have HL := Aside0.mk hlen
  clear hr hlen
  have HB := Aside0.mk (Below.refl w.heap.size w)
  go_enter Try.func111, Try.ntmps111
  go_wp2
  go_loopw [5] (fun v wr => ∃ i : Int, v = .int .i64 i ∧ Aside0 (-1 ≤ i ∧ i < es.length ∧ SortedFrom es i.toNat) ∧ Aside0 (Below w.heap.size w wr)) (fun v _ => (intOf v + 1).toNat)
  case atStart => exact ⟨(es.length : Int) - 1, by rw [wrap_id (by have := HL.out; omega) (by have := HL.out; omega)], ⟨by omega, by omega, fun j hj hjl => by omega⟩, HB⟩
  case round =>
    obtain ⟨i, rfl, HI, HB⟩ := hrel
    by_cases h0 : 0 < i
    · obtain ⟨j, hij⟩ : ∃ j : Nat, i = (j : Int) + 1 := ⟨(i - 1).toNat, by omega⟩
      have hj := HI.out.2.1
      have hl := HL.out
      have hw : wrap64 (i - 1) = (j : Int) := by rw [wrap_id (by omega) (by omega)]; omega
      have p1 : 0 ≤ i := by omega
      have p2 : 0 ≤ wrap64 (i - 1) := by omega
      have q2 : wrap64 (i - 1) < (es.length : Int) := by omega
      obtain ⟨ad, e, hx0, hx1⟩ := at_T83 HR.out i p1 hj
      cases e
      obtain ⟨ad', e, hy0, hy1⟩ := at_T83 HR.out (wrap64 (i - 1)) p2 q2
      cases e
      replace hx0 := (HB.out.cell (World.block_lt_of_cell? w _ hx0)).trans hx0
      replace hx1 := (HB.out.cell (World.block_lt_of_cell? w _ hx1)).trans hx1
      replace hy0 := (HB.out.cell (World.block_lt_of_cell? w _ hy0)).trans hy0
      replace hy1 := (HB.out.cell (World.block_lt_of_cell? w _ hy1)).trans hy1
      have c0 : decide (0 < i) = true := decide_eq_true h0
      replace p1 := eq_true p1
      have q1 := eq_true hj
      replace p2 := eq_true p2
      replace q2 := eq_true q2
      have HW := Aside0.mk hw
      have HIJ := Aside0.mk hij
      clear hj hl hw hij h0
      go_wp2
      go_still_tail 10, (by kernel_rfl)
      simp only [i64_w]
      repeat still_step
      refine wpStill_nil ?_
      change wpList _ _ _ _ _ wr.drew
      have HB' := Aside0.mk (below_drew1 HB.out)
      clear HB hx0 hx1 hy0 hy1
      generalize wr.drew = w2 at HB' ⊢
      have HX := Aside0.mk (cmpE_eq (rd_T83 es i) (rd_T83 es (wrap64 (i - 1))))
      have HC := Aside0.mk (cmpE_lt (rd_T83 es i) (rd_T83 es (wrap64 (i - 1))))
      generalize cmpE (rd_T83 es i) (rd_T83 es (wrap64 (i - 1))) = z at HX HC
      have HE : Aside0 (∃ hj : j + 1 < es.length, rd_T83 es i = es[j + 1] ∧ rd_T83 es (wrap64 (i - 1)) = es[j]) := by
        have hj : j + 1 < es.length := by
          have := HI.out.2.1
          have := HIJ.out
          omega
        have e1 : i = ((j + 1 : Nat) : Int) := by have := HIJ.out; omega
        refine ⟨hj, ?_, ?_⟩
        · rw [e1, rdE_get hj]
        · rw [HW.out, rdE_get (by omega)]
      by_cases hz : z < 0
      · have cz : decide (z < 0) = true := decide_eq_true hz
        have HZ := Aside0.mk hz
        clear hz
        go_wp2_with fail
        refine (impl_compareEdges.calls _ _ _ _ z _ HX.out).mono ?_
        rintro e w3 ⟨rfl, hb⟩
        go_wp2
        go_ret
        obtain ⟨hj, e1, e2⟩ := HE.out
        have hs := SortedFrom.none hj (by rw [← e1, ← e2]; exact HC.out.1 HZ.out)
        exact ⟨by rw [hs]; rfl, below_step HB'.out hb⟩
      · have cz : decide (z < 0) = false := decide_eq_false hz
        have HZ := Aside0.mk hz
        clear hz
        go_wp2_with fail
        refine (impl_compareEdges.calls _ _ _ _ z _ HX.out).mono ?_
        rintro e w3 ⟨rfl, hb⟩
        have HB2 := Aside0.mk (below_step HB'.out hb)
        clear hb
        go_wp2
        go_roundw
        case rel =>
          have hi := HI.out
          have hw := HW.out
          have hij := HIJ.out
          refine ⟨wrap64 (i - 1), rfl, ⟨by omega, by omega, ?_⟩, HB2⟩
          obtain ⟨hj, e1, e2⟩ := HE.out
          have hle : leE es[j] es[j + 1] := by
            rw [← e1, ← e2]
            apply Classical.byContradiction
            intro hn
            have h1 := HC.out.2 hn
            have h2 := HZ.out
            omega
          rw [hw, Int.toNat_natCast]
          refine SortedFrom.down ?_ hj hle
          have := hi.2.2
          rw [hij, show ((j : Int) + 1).toNat = j + 1 by omega] at this
          exact this
        case measure =>
          have hi := HI.out
          have hw := HW.out
          have hij := HIJ.out
          simp [intOf]
          omega
    · have c0 : decide (0 < i) = false := decide_eq_false h0
      have HZ := Aside0.mk h0
      clear h0
      go_wp2
      go_ret
      have := HI.out
      have h0 := HZ.out
      have hs : SortedFrom es i.toNat := this.2.2
      rw [show i.toNat = 0 by omega] at hs
      have ha := hs.all
      exact ⟨by rw [ha]; rfl, HB.out⟩
end Go.Proofs.Ytgobnfeahffnaaa.Cf
end

section
namespace Go.Proofs.Ytgobnfeahffnaaa.P
open Go.RowKit Go.Proofs.YtgobnfeahffnaaaW.PrintWords Go.Proofs.YtgobnfeahffnaaaW.PrintLast Go.Proofs.YtgobnfeahffnaaaW.PrintMore
attribute [local go_sem] max2_int min2_int max_two min_two max_three min_three max_four min_four
set_option linter.unusedVariables false
set_option linter.unusedSimpArgs false
def impl_GraphOk.f (a0_0 : Int) (l0_1 : List (S83)) : Option Bool := some (Cf.gOk a0_0 l0_1)
set_option maxHeartbeats 2000000 in
set_option maxRecDepth 100000 in
theorem impl_GraphOk.calls (a0_0 : Int) (A0_1 : Option Addr) (c0_1 : Nat) (l0_1 : List (S83)) (r : Bool) (w : World) (hr0_1 : Kd.C k83 w A0_1 l0_1.length l0_1) (hc0_1 : l0_1.length ≤ c0_1) (h : impl_GraphOk.f a0_0 l0_1 = some r) :
  Calls Try.prog 82 #[.agg #[.int .i64 a0_0, .slice A0_1 l0_1.length c0_1]] w fun e w' => e = .returned (.bool r) ∧ Below w.heap.size w w' := by
 obtain rfl := Option.some.inj h; clear h; obtain ⟨k1, hk1⟩ := (Cf.implEdges a0_0 l0_1).rounds; have HR := Aside0.mk hr0_1; have HK1 := Aside0.mk hk1; clear hr0_1 hk1; go_enter Try.func82, Try.ntmps82; have HB := Aside0.mk (below_alloc (Below.refl w.heap.size w) (.cells #[.int .i64 a0_0, .slice A0_1 l0_1.length c0_1] 25)); have BK := Aside0.mk (heap_alloc_new w (.cells #[.int .i64 a0_0, .slice A0_1 l0_1.length c0_1] 25)); by_cases he : Cf.EsOk a0_0 l0_1; rotate_left
 ·have HE := Aside0.mk he; replace HK1 := Aside0.mk (HK1.out.trans (congrArg some (decide_eq_false he))); clear he; (go_wp2_with fail); refine (impl_EdgesOk.calls k1 _ _ _ l0_1 false _ (Kd.C_below HR.out HB.out) hc0_1 HK1.out).mono ?_; rintro e w1 ⟨rfl, hb⟩; have HB1 := Aside0.mk (below_step HB.out hb); clear hb; go_wp2; go_ret
  have hg : Cf.gOk a0_0 l0_1 = false := by
   cases hb : Cf.gOk a0_0 l0_1 with
   | false => rfl
   | true => exact absurd (Cf.gOk_iff.1 hb).1 HE.out
  exact ⟨by rw [hg]; rfl, HB1.out⟩
 have HE := Aside0.mk he; replace HK1 := Aside0.mk (HK1.out.trans (congrArg some (decide_eq_true he))); clear he; (go_wp2_with fail); refine (impl_EdgesOk.calls k1 _ _ _ l0_1 true _ (Kd.C_below HR.out HB.out) hc0_1 HK1.out).mono ?_; rintro e w1 ⟨rfl, hb⟩; have HB1 := Aside0.mk (below_step HB.out hb); have BK1 := Aside0.mk (blk_below BK.out hb); clear hb; have hz0 : w1.cell? ⟨w.heap.size, 0, none⟩ = some (.int .i64 a0_0) := (blk_cell BK1.out 0).trans rfl; have hz1 : w1.cell? ⟨w.heap.size, 1, none⟩ = some (.slice A0_1 l0_1.length c0_1) := (blk_cell BK1.out 1).trans rfl; (go_wp2_with fail); have HS := Aside0.mk (Cf.isf_calls l0_1 A0_1 c0_1 w1 (Kd.C_below HR.out HB1.out) hc0_1); by_cases hs : Cf.Sorted l0_1; rotate_left
 ·have hsb : Cf.sortedB l0_1 = false := by
   cases hb : Cf.sortedB l0_1 with
   | false => rfl
   | true => exact absurd (Cf.sortedB_iff.1 hb) hs
  rw [hsb] at HS; have HSo := Aside0.mk hs; clear hs hsb; refine HS.out.mono ?_; rintro e w2 ⟨rfl, hb⟩; have HB2 := Aside0.mk (below_step HB1.out hb); clear hb hz0 hz1; go_wp2; go_ret
  have hg : Cf.gOk a0_0 l0_1 = false := by
   cases hb : Cf.gOk a0_0 l0_1 with
   | false => rfl
   | true => exact absurd (Cf.gOk_iff.1 hb).2.1 HSo.out
  exact ⟨by rw [hg]; rfl, HB2.out⟩
 have HSo := Aside0.mk hs; rw [Cf.sortedB_iff.2 hs] at HS; clear hs; refine HS.out.mono ?_; rintro e w2 ⟨rfl, hb⟩; have HB2 := Aside0.mk (below_step HB1.out hb); have BK2 := Aside0.mk (blk_below BK1.out hb); clear hb hz0 hz1; have hz0 : w2.cell? ⟨w.heap.size, 0, none⟩ = some (.int .i64 a0_0) := (blk_cell BK2.out 0).trans rfl; have hz1 : w2.cell? ⟨w.heap.size, 1, none⟩ = some (.slice A0_1 l0_1.length c0_1) := (blk_cell BK2.out 1).trans rfl; (go_wp2_with fail); obtain ⟨h1, h6, hl, hes⟩ := HE.out; obtain ⟨n, rfl⟩ := Int.eq_ofNat_of_zero_le (a := a0_0) (by omega); obtain ⟨k2, hk2⟩ := (Cf.implConn n ⟨by omega, by omega⟩ l0_1 (by omega) hes).rounds; refine (impl_connected.calls k2 _ _ _ l0_1 (Cf.joinedB n l0_1) _ (Kd.C_below HR.out HB2.out) hc0_1 hk2).mono ?_; rintro e w3 ⟨rfl, hd⟩; have HB3 := Aside0.mk (below_step HB2.out hd); clear hd hk2 h1 h6 hl hes
 have hg : Cf.gOk n l0_1 = Cf.joinedB n l0_1 := by
  rw [Bool.eq_iff_iff, Cf.gOk_iff, Cf.joinedB_iff]; exact ⟨fun h => h.2.2, fun h => ⟨HE.out, HSo.out, h⟩⟩
 have HG := Aside0.mk hg; clear hg; generalize Cf.joinedB n l0_1 = z at HG ⊢; cases z
 ·go_wp2; go_ret; exact ⟨by rw [HG.out]; rfl, HB3.out⟩
 ·go_wp2; go_ret; exact ⟨by rw [HG.out]; rfl, HB3.out⟩
def impl_allWithin.l0 : Nat → Int → Int → List Int → Int → Int → Option (Bool)
 | 0, _, _, _, _, _ => none
 | k + 1, x1, x2, x9, x10, x11 => if x11 < x10 then (if 0 ≤ x11 then (if x11 < (x9.length : Int) then ((impl_within.f (rd x9 x11) x1 x2).bind fun t102 => (if t102 = true then (impl_allWithin.l0 k x1 x2 x9 x10 (wrap64 (x11 + 1))) else (some false))) else (none)) else (none)) else (some true)
def impl_allWithin.f (k : Nat) (l0 : List Int) (a1 : Int) (a2 : Int) : Option (Bool) := impl_allWithin.l0 k a1 a2 l0 (l0.length : Int) 0
theorem impl_allWithin.mono_l : ∀ k, (∀ y0 y1 y2 y3 y4, LeO (impl_allWithin.l0 k y0 y1 y2 y3 y4) (impl_allWithin.l0 (k + 1) y0 y1 y2 y3 y4))
 | 0 => fun _ _ _ _ _ r h => by simp [impl_allWithin.l0] at h
 | k + 1 => by
  have ih0 := impl_allWithin.mono_l k
  ·intro y0 y1 y2 y3 y4
   unfold impl_allWithin.l0
   exact zm0
theorem impl_allWithin.mono : ∀ a0 a1 a2 k, LeO (impl_allWithin.f k a0 a1 a2) (impl_allWithin.f (k + 1) a0 a1 a2) := by
 intro a0 a1 a2 k; have ih0 := impl_allWithin.mono_l k; unfold impl_allWithin.f; exact zm0
set_option maxHeartbeats 8000000 in
set_option maxRecDepth 100000 in
theorem impl_allWithin.calls (k : Nat) (A0 : Option Addr) (c0 : Nat) (l0 : List Int) (a1 : Int) (a2 : Int) (r : Bool) (w : World) (hr0 : Kd.C (Kd.int .i64) w A0 l0.length l0) (hc0 : l0.length ≤ c0) (h : impl_allWithin.f k l0 a1 a2 = some r) :
  Calls Try.prog 109 #[.slice A0 l0.length c0, .int .i64 a1, .int .i64 a2] w fun e w' => e = .returned (.bool r) ∧ Drawn0 w w' := by
 have HR0 := Aside0.mk hr0; have HC0 := Aside0.mk hc0; clear hr0 hc0; have H : (impl_allWithin.l0 k a1 a2 l0 (l0.length : Int) 0) = some r := h; clear h; have H' := Aside0.mk H; clear H; go_enter Try.func109, Try.ntmps109; go_wp2; (go_loopg [11] k (fun kq v11 w' => ∃ (x11_1 : Int), v11 = .int .i64 x11_1 ∧ Aside0 (impl_allWithin.l0 kq a1 a2 l0 (l0.length : Int) x11_1 = some r) ∧ Aside0 (kq ≤ k) ∧ Drawn0 w w')); case atStart => exact ⟨(0), zz7, H', ⟨Nat.le_refl _⟩, by repeat (first | exact Drawn0.refl _ | apply Drawn0.step)⟩
 case round =>
  clear H'; (try clear c1); (try clear p2); obtain ⟨x11_1, rfl, HA, HK1, ⟨m1, rfl⟩⟩ := hrel
  cases gk with
  | zero => exact absurd HA.out (by simp [impl_allWithin.l0])
  | succ k1 =>
   have H := HA.out; clear HA; simp only [impl_allWithin.l0] at H; by_cases c4 : x11_1 < (l0.length : Int); rotate_left
   ·rw [if_neg c4] at H; have c4b0 := decide_eq_false c4; clear c4; obtain rfl := Option.some.inj H; go_wp2; go_ret; exact ⟨zz7, by repeat (first | exact Drawn0.refl _ | apply Drawn0.step)⟩
   rw [if_pos c4] at H; have c4b0 := decide_eq_true c4; clear c4; by_cases c5 : 0 ≤ x11_1; rotate_left
   ·rw [if_neg c5] at H; exact absurd H (by simp)
   rw [if_pos c5] at H; have c5b0 := decide_eq_true c5; clear c5; by_cases c6 : x11_1 < (l0.length : Int); rotate_left
   ·rw [if_neg c6] at H; exact absurd H (by simp)
   rw [if_pos c6] at H; have c6b0 := decide_eq_true c6; clear c6; replace H := Option.bind_eq_some_iff.mp H; obtain ⟨t102, A70, H⟩ := H; (try dsimp only at H); have A7 := Aside0.mk A70; clear A70; by_cases c8 : t102 = true; rotate_left
   ·replace c8 := Bool.eq_false_iff.mpr c8; subst c8; rw [if_neg (show ¬ (false = true) by decide)] at H; obtain rfl := Option.some.inj H; have p101 : 0 ≤ (x11_1 : Int) := of_decide_eq_true zz4; have q101 : x11_1 < (l0.length : Int) := of_decide_eq_true zz4; obtain ⟨ad101, e101, hx101_0⟩ := Kd.at_int HR0.out x11_1 p101 q101; cases e101; replace p101 := eq_true p101; replace q101 := eq_true q101; (go_wp2_with (first | ((with_reducible refine gate_callee (f := 62) rfl ?_); refine goesL_ (some 18) rfl rfl Try.func62 (by kernel_rfl) rfl #[.int .i64 (rd l0 x11_1), .int .i64 a1, .int .i64 a2] rfl zz3 ?_; (with_reducible refine (impl_within.calls (rd l0 x11_1) a1 a2 false _ A7.out).mono ?_); rintro e w' ⟨rfl, ⟨nd, rfl⟩⟩; refine ⟨_, rfl, ?_⟩))); go_ret; exact ⟨zz7, by repeat (first | exact Drawn0.refl _ | apply Drawn0.step)⟩
   subst c8; rw [if_pos rfl] at H; have H' := Aside0.mk H; clear H; have p101 : 0 ≤ (x11_1 : Int) := of_decide_eq_true zz4; have q101 : x11_1 < (l0.length : Int) := of_decide_eq_true zz4; obtain ⟨ad101, e101, hx101_0⟩ := Kd.at_int HR0.out x11_1 p101 q101; cases e101; replace p101 := eq_true p101; replace q101 := eq_true q101; (go_wp2_with (first | ((with_reducible refine gate_callee (f := 62) rfl ?_); refine goesL_ (some 18) rfl rfl Try.func62 (by kernel_rfl) rfl #[.int .i64 (rd l0 x11_1), .int .i64 a1, .int .i64 a2] rfl zz3 ?_; (with_reducible refine (impl_within.calls (rd l0 x11_1) a1 a2 true _ A7.out).mono ?_); rintro e w' ⟨rfl, ⟨nd, rfl⟩⟩; refine ⟨_, rfl, ?_⟩))); go_roundg k1; (case measure => have := HK1.out; omega); case rel => exact ⟨(wrap64 (x11_1 + 1)), zz7, H', ⟨zz98⟩, by repeat (first | exact Drawn0.refl _ | apply Drawn0.step)⟩
def impl_DivisorOk.f (k : Nat) (a0_0 : Int) (l0_1 : List (S83)) (l1 : List Int) : Option (Bool) := (impl_GraphOk.f a0_0 l0_1).bind fun t102 => (if t102 = true then (if (l1.length : Int) = a0_0 then ((impl_allWithin.f k l1 (-60) 60).bind fun t103 => (some t103)) else (some false)) else (some false))
theorem impl_DivisorOk.mono : ∀ a0 a1 a2 k, LeO (impl_DivisorOk.f k a0 a1 a2) (impl_DivisorOk.f (k + 1) a0 a1 a2) := by
 intro a0 a1 a2 k; unfold impl_DivisorOk.f; exact zm25
set_option maxHeartbeats 8000000 in
set_option maxRecDepth 100000 in
theorem impl_DivisorOk.calls (k : Nat) (a0_0 : Int) (A0_1 : Option Addr) (c0_1 : Nat) (l0_1 : List (S83)) (A1 : Option Addr) (c1 : Nat) (l1 : List Int) (r : Bool) (w : World) (hr0_1 : Kd.C k83 w A0_1 l0_1.length l0_1) (hc0_1 : l0_1.length ≤ c0_1) (hr1 : Kd.C (Kd.int .i64) w A1 l1.length l1) (hc1 : l1.length ≤ c1) (h : impl_DivisorOk.f k a0_0 l0_1 l1 = some r) :
  Calls Try.prog 83 #[.agg #[.int .i64 a0_0, .slice A0_1 l0_1.length c0_1], .slice A1 l1.length c1] w fun e w' => e = .returned (.bool r) ∧ Below w.heap.size w w' := by
 have hu25 := Try.underlying25; have HR0_1 := Aside0.mk hr0_1; have HC0_1 := Aside0.mk hc0_1; clear hr0_1 hc0_1; have HR1 := Aside0.mk hr1; have HC1 := Aside0.mk hc1; clear hr1 hc1; have HB := Aside0.mk (Below.refl w.heap.size w); have H : ((impl_GraphOk.f a0_0 l0_1).bind fun t102 => (if t102 = true then (if (l1.length : Int) = a0_0 then ((impl_allWithin.f k l1 (-60) 60).bind fun t103 => (some t103)) else (some false)) else (some false))) = some r := h; clear h; replace H := Option.bind_eq_some_iff.mp H; obtain ⟨t102, A30, H⟩ := H; (try dsimp only at H); have A3 := Aside0.mk A30; clear A30; by_cases c4 : t102 = true; rotate_left
 ·replace c4 := Bool.eq_false_iff.mpr c4; subst c4; rw [if_neg (show ¬ (false = true) by decide)] at H; obtain rfl := Option.some.inj H; go_enter Try.func83, Try.ntmps83; (go_wp2_with (first | ((with_reducible refine gate_dst (N := 2) rfl ?_); (try (refine gate_guard (by rfl) ?_; dsimp only)); refine box_event ?hg (N := 2) ?hd (cs := #[.int .i64 a0_0, .slice A0_1 l0_1.length c0_1]) (t := 25) ?hr ?_; (case hd => rfl); (case hg => rfl); (case hr => exact zz19); intro gb101 hg w15 hbox hb; have n_ := zA4 (below_step zz2 hb) hbox (zz15 : w.heap.size ≤ gb101) (zz15 : w.heap.size ≤ gb101); clear HB; obtain ⟨HB, BK101, GW101, GE101⟩ := n_; clear hb hbox hg; have hcz16_0 := zC20 BK101; have hcz16_1 := zC21 BK101; have hfz16_0 := blk_frozen BK101.out 0; have hfz16_1 := blk_frozen BK101.out 1) | ((with_reducible refine gate_callee (f := 82) rfl ?_); refine goesL_ (some 6) rfl rfl Try.func82 (by kernel_rfl) rfl #[.agg #[.int .i64 a0_0, .slice A0_1 l0_1.length c0_1]] rfl zz3 ?_; (with_reducible refine (impl_GraphOk.calls a0_0 _ _ l0_1 false _ ?side1 ?side2 A3.out).mono ?_); (case side1 => exact zz5); (case side2 => exact HC0_1.out); rintro e w17 ⟨rfl, hb⟩; refine ⟨_, rfl, ?_⟩; have n_ := zA2 (blk_below (g := gb101) (o := .cells #[.int .i64 a0_0, .slice A0_1 l0_1.length c0_1] 25 (0, 0)) zz1 hb) (below_step zz0 hb); clear BK101 HB; obtain ⟨BK101, HB⟩ := n_; clear hb))); go_ret; exact ⟨zz10, zz0⟩
 subst c4; rw [if_pos rfl] at H; by_cases c5 : (l1.length : Int) = a0_0; rotate_left
 ·rw [if_neg c5] at H; have c5b0 : ((l1.length : Int) == a0_0) = false := beq_eq_false_iff_ne.mpr c5; have c5b1 : ((l1.length : Int) != a0_0) = true := bne_iff_ne.mpr c5; obtain rfl := Option.some.inj H; go_enter Try.func83, Try.ntmps83; (go_wp2_with (first | ((with_reducible refine gate_dst (N := 2) rfl ?_); (try (refine gate_guard (by rfl) ?_; dsimp only)); refine box_event ?hg (N := 2) ?hd (cs := #[.int .i64 a0_0, .slice A0_1 l0_1.length c0_1]) (t := 25) ?hr ?_; (case hd => rfl); (case hg => rfl); (case hr => exact zz19); intro gb101 hg w11 hbox hb; have n_ := zA4 (below_step zz2 hb) hbox (zz15 : w.heap.size ≤ gb101) (zz15 : w.heap.size ≤ gb101); clear HB; obtain ⟨HB, BK101, GW101, GE101⟩ := n_; clear hb hbox hg; have hcz12_0 := zC20 BK101; have hcz12_1 := zC21 BK101; have hfz12_0 := blk_frozen BK101.out 0; have hfz12_1 := blk_frozen BK101.out 1) | ((with_reducible refine gate_callee (f := 82) rfl ?_); refine goesL_ (some 6) rfl rfl Try.func82 (by kernel_rfl) rfl #[.agg #[.int .i64 a0_0, .slice A0_1 l0_1.length c0_1]] rfl zz3 ?_; (with_reducible refine (impl_GraphOk.calls a0_0 _ _ l0_1 true _ ?side1 ?side2 A3.out).mono ?_); (case side1 => exact zz5); (case side2 => exact HC0_1.out); rintro e w13 ⟨rfl, hb⟩; refine ⟨_, rfl, ?_⟩; have n_ := zA2 (blk_below (g := gb101) (o := .cells #[.int .i64 a0_0, .slice A0_1 l0_1.length c0_1] 25 (0, 0)) zz1 hb) (below_step zz0 hb); clear BK101 HB; obtain ⟨BK101, HB⟩ := n_; clear hb; have hcz14_0 := zC20 BK101; have hcz14_1 := zC21 BK101; have hfz14_0 := blk_frozen BK101.out 0; have hfz14_1 := blk_frozen BK101.out 1))); go_ret; exact ⟨zz10, zz0⟩
 rw [if_pos c5] at H; have c5b0 : ((l1.length : Int) == a0_0) = true := beq_iff_eq.mpr c5; have c5b1 : ((l1.length : Int) != a0_0) = false := bne_eq_false_iff_eq.mpr c5; clear c5; replace H := Option.bind_eq_some_iff.mp H; obtain ⟨t103, A60, H⟩ := H; (try dsimp only at H); have A6 := Aside0.mk A60; clear A60; obtain rfl := Option.some.inj H; go_enter Try.func83, Try.ntmps83; (go_wp2_with (first | ((with_reducible refine gate_dst (N := 2) rfl ?_); (try (refine gate_guard (by rfl) ?_; dsimp only)); refine box_event ?hg (N := 2) ?hd (cs := #[.int .i64 a0_0, .slice A0_1 l0_1.length c0_1]) (t := 25) ?hr ?_; (case hd => rfl); (case hg => rfl); (case hr => exact zz19); intro gb101 hg w7 hbox hb; have n_ := zA4 (below_step zz2 hb) hbox (zz15 : w.heap.size ≤ gb101) (zz15 : w.heap.size ≤ gb101); clear HB; obtain ⟨HB, BK101, GW101, GE101⟩ := n_; clear hb hbox hg; have hcz8_0 := zC20 BK101; have hcz8_1 := zC21 BK101; have hfz8_0 := blk_frozen BK101.out 0; have hfz8_1 := blk_frozen BK101.out 1) | ((with_reducible refine gate_callee (f := 82) rfl ?_); refine goesL_ (some 6) rfl rfl Try.func82 (by kernel_rfl) rfl #[.agg #[.int .i64 a0_0, .slice A0_1 l0_1.length c0_1]] rfl zz3 ?_; (with_reducible refine (impl_GraphOk.calls a0_0 _ _ l0_1 true _ ?side1 ?side2 A3.out).mono ?_); (case side1 => exact zz5); (case side2 => exact HC0_1.out); rintro e w9 ⟨rfl, hb⟩; refine ⟨_, rfl, ?_⟩; have n_ := zA2 (blk_below (g := gb101) (o := .cells #[.int .i64 a0_0, .slice A0_1 l0_1.length c0_1] 25 (0, 0)) zz1 hb) (below_step zz0 hb); clear BK101 HB; obtain ⟨BK101, HB⟩ := n_; clear hb; have hcz10_0 := zC20 BK101; have hcz10_1 := zC21 BK101; have hfz10_0 := blk_frozen BK101.out 0; have hfz10_1 := blk_frozen BK101.out 1) | (go_at_call 109; (with_reducible refine (impl_allWithin.calls k _ _ l1 (-60) 60 t103 _ ?side1 ?side2 A6.out).mono ?_); (case side1 => exact zz20); (case side2 => exact HC1.out); rintro e w' ⟨rfl, ⟨nd, rfl⟩⟩))); go_ret; exact ⟨zz10, zz0⟩
def slices_Index_int_int.l0 : Nat → List Int → Int → Int → Int → Option (Int)
 | 0, _, _, _, _ => none
 | k + 1, x0, x1, x7, x8 => if x8 < x7 then (if 0 ≤ x8 then (if x8 < (x0.length : Int) then (if x1 = (rd x0 x8) then (some x8) else (slices_Index_int_int.l0 k x0 x1 x7 (wrap64 (x8 + 1)))) else (none)) else (none)) else (some (-1))
def slices_Index_int_int.f (k : Nat) (l0 : List Int) (a1 : Int) : Option (Int) := slices_Index_int_int.l0 k l0 a1 (l0.length : Int) 0
theorem slices_Index_int_int.mono_l : ∀ k, (∀ y0 y1 y2 y3, LeO (slices_Index_int_int.l0 k y0 y1 y2 y3) (slices_Index_int_int.l0 (k + 1) y0 y1 y2 y3))
 | 0 => fun _ _ _ _ r h => by simp [slices_Index_int_int.l0] at h
 | k + 1 => by
  have ih0 := slices_Index_int_int.mono_l k
  ·intro y0 y1 y2 y3
   unfold slices_Index_int_int.l0
   exact zm0
theorem slices_Index_int_int.mono : ∀ a0 a1 k, LeO (slices_Index_int_int.f k a0 a1) (slices_Index_int_int.f (k + 1) a0 a1) := by
 intro a0 a1 k; have ih0 := slices_Index_int_int.mono_l k; unfold slices_Index_int_int.f; exact zm0
set_option maxHeartbeats 8000000 in
set_option maxRecDepth 100000 in
theorem slices_Index_int_int.calls (k : Nat) (A0 : Option Addr) (c0 : Nat) (l0 : List Int) (a1 : Int) (r : Int) (w : World) (hr0 : Kd.C (Kd.int .i64) w A0 l0.length l0) (hc0 : l0.length ≤ c0) (h : slices_Index_int_int.f k l0 a1 = some r) :
  Calls Try.prog 108 #[.slice A0 l0.length c0, .int .i64 a1] w fun e w' => e = .returned (.int .i64 r) ∧ Drawn0 w w' := by
 have HR0 := Aside0.mk hr0; have HC0 := Aside0.mk hc0; clear hr0 hc0; have H : (slices_Index_int_int.l0 k l0 a1 (l0.length : Int) 0) = some r := h; clear h; have H' := Aside0.mk H; clear H; go_enter Try.func108, Try.ntmps108; go_wp2; (go_loopg [8] k (fun kq v8 w' => ∃ (x8_1 : Int), v8 = .int .i64 x8_1 ∧ Aside0 (slices_Index_int_int.l0 kq l0 a1 (l0.length : Int) x8_1 = some r) ∧ Aside0 (kq ≤ k) ∧ Drawn0 w w')); case atStart => exact ⟨(0), zz7, H', ⟨Nat.le_refl _⟩, by repeat (first | exact Drawn0.refl _ | apply Drawn0.step)⟩
 case round =>
  clear H'; (try clear c1); (try clear p2); obtain ⟨x8_1, rfl, HA, HK1, ⟨m1, rfl⟩⟩ := hrel
  cases gk with
  | zero => exact absurd HA.out (by simp [slices_Index_int_int.l0])
  | succ k1 =>
   have H := HA.out; clear HA; simp only [slices_Index_int_int.l0] at H; by_cases c3 : x8_1 < (l0.length : Int); rotate_left
   ·rw [if_neg c3] at H; have c3b0 := decide_eq_false c3; clear c3; obtain rfl := Option.some.inj H; go_wp2; go_ret; exact ⟨zz7, by repeat (first | exact Drawn0.refl _ | apply Drawn0.step)⟩
   rw [if_pos c3] at H; have c3b0 := decide_eq_true c3; clear c3; by_cases c4 : 0 ≤ x8_1; rotate_left
   ·rw [if_neg c4] at H; exact absurd H (by simp)
   rw [if_pos c4] at H; have c4b0 := decide_eq_true c4; clear c4; by_cases c5 : x8_1 < (l0.length : Int); rotate_left
   ·rw [if_neg c5] at H; exact absurd H (by simp)
   rw [if_pos c5] at H; have c5b0 := decide_eq_true c5; clear c5; by_cases c6 : a1 = (rd l0 x8_1)
   ·rw [if_pos c6] at H; have c6b0 : (a1 == (rd l0 x8_1)) = true := beq_iff_eq.mpr c6; have c6b1 : (a1 != (rd l0 x8_1)) = false := bne_eq_false_iff_eq.mpr c6; clear c6; obtain rfl := Option.some.inj H; have p101 : 0 ≤ (x8_1 : Int) := of_decide_eq_true zz4; have q101 : x8_1 < (l0.length : Int) := of_decide_eq_true zz4; obtain ⟨ad101, e101, hx101_0⟩ := Kd.at_int HR0.out x8_1 p101 q101; cases e101; replace p101 := eq_true p101; replace q101 := eq_true q101; go_wp2; go_ret; exact ⟨zz7, by repeat (first | exact Drawn0.refl _ | apply Drawn0.step)⟩
   rw [if_neg c6] at H; have c6b0 : (a1 == (rd l0 x8_1)) = false := beq_eq_false_iff_ne.mpr c6; have c6b1 : (a1 != (rd l0 x8_1)) = true := bne_iff_ne.mpr c6; have H' := Aside0.mk H; clear H; have p101 : 0 ≤ (x8_1 : Int) := of_decide_eq_true zz4; have q101 : x8_1 < (l0.length : Int) := of_decide_eq_true zz4; obtain ⟨ad101, e101, hx101_0⟩ := Kd.at_int HR0.out x8_1 p101 q101; cases e101; replace p101 := eq_true p101; replace q101 := eq_true q101; go_wp2; go_roundg k1; (case measure => have := HK1.out; omega); case rel => exact ⟨(wrap64 (x8_1 + 1)), zz7, H', ⟨zz98⟩, by repeat (first | exact Drawn0.refl _ | apply Drawn0.step)⟩
def slices_Contains_int_int.f (k : Nat) (l0 : List Int) (a1 : Int) : Option (Bool) := (slices_Index_int_int.f k l0 a1).bind fun t101 => (some (decide (t101 ≥ 0)))
theorem slices_Contains_int_int.mono : ∀ a0 a1 k, LeO (slices_Contains_int_int.f k a0 a1) (slices_Contains_int_int.f (k + 1) a0 a1) := by
 intro a0 a1 k; unfold slices_Contains_int_int.f; repeat' first | (with_reducible apply slices_Index_int_int.mono) | (with_reducible exact LeO.refl _) | (with_reducible exact LeO.none _) | (with_reducible refine LeO.ite ?_ ?_) | (with_reducible refine LeO.bind ?_ (fun _ => ?_)) | apply slices_Index_int_int.mono | exact LeO.none _ | refine LeO.ite ?_ ?_ | refine LeO.bind ?_ (fun _ => ?_)
set_option maxHeartbeats 8000000 in
set_option maxRecDepth 100000 in
theorem slices_Contains_int_int.calls (k : Nat) (A0 : Option Addr) (c0 : Nat) (l0 : List Int) (a1 : Int) (r : Bool) (w : World) (hr0 : Kd.C (Kd.int .i64) w A0 l0.length l0) (hc0 : l0.length ≤ c0) (h : slices_Contains_int_int.f k l0 a1 = some r) :
  Calls Try.prog 85 #[.slice A0 l0.length c0, .int .i64 a1] w fun e w' => e = .returned (.bool r) ∧ Drawn0 w w' := by
 have HR0 := Aside0.mk hr0; have HC0 := Aside0.mk hc0; clear hr0 hc0; have H : ((slices_Index_int_int.f k l0 a1).bind fun t101 => (some (decide (t101 ≥ 0)))) = some r := h; clear h; replace H := Option.bind_eq_some_iff.mp H; obtain ⟨t101, A30, H⟩ := H; (try dsimp only at H); have A3 := Aside0.mk A30; clear A30; obtain rfl := Option.some.inj H; go_enter Try.func85, Try.ntmps85; (go_wp2_with (first | ((with_reducible refine gate_callee (f := 108) rfl ?_); refine goesL_ (some 7) rfl rfl Try.func108 (by kernel_rfl) rfl #[.slice A0 l0.length c0, .int .i64 a1] rfl zz3 ?_; (with_reducible refine (slices_Index_int_int.calls k _ _ l0 a1 t101 _ ?side1 ?side2 A3.out).mono ?_); (case side1 => exact zz87); (case side2 => exact HC0.out); rintro e w' ⟨rfl, ⟨nd, rfl⟩⟩; refine ⟨_, rfl, ?_⟩))); go_ret; exact ⟨zz7, by repeat (first | exact Drawn0.refl _ | apply Drawn0.step)⟩
mutual
def impl_Multiplicity.j0 : Nat → Int → Int → Bool → Int → List (S83) → Option (Int)
 | 0, _, _, _, _, _ => none
 | k + 1, x1, x2, x26, x102000, x102001 => if x26 = true then (some 0) else (impl_Multiplicity.l0 k x1 x2 0 x102001 (x102001.length : Int) 0)
def impl_Multiplicity.l0 : Nat → Int → Int → Int → List (S83) → Int → Int → Option (Int)
 | 0, _, _, _, _, _, _ => none
 | k + 1, x1, x2, x7, x28, x29, x30 => if x30 < x29 then (if 0 ≤ x30 then (if x30 < (x28.length : Int) then (if ((rd_T83 x28 x30).f0) = (mn x1 x2) then (if ((rd_T83 x28 x30).f1) = (mx x1 x2) then (impl_Multiplicity.l0 k x1 x2 (wrap64 (x7 + 1)) x28 x29 (wrap64 (x30 + 1))) else (impl_Multiplicity.l0 k x1 x2 x7 x28 x29 (wrap64 (x30 + 1)))) else (impl_Multiplicity.l0 k x1 x2 x7 x28 x29 (wrap64 (x30 + 1)))) else (none)) else (none)) else (some x7)
end
def impl_Multiplicity.f (k : Nat) (a0_0 : Int) (l0_1 : List (S83)) (a1 : Int) (a2 : Int) : Option (Int) := if (mn a1 a2) < 0 then (impl_Multiplicity.j0 k a1 a2 true a0_0 l0_1) else (if (mx a1 a2) ≥ a0_0 then (impl_Multiplicity.j0 k a1 a2 true a0_0 l0_1) else (impl_Multiplicity.j0 k a1 a2 (a1 == a2) a0_0 l0_1))
theorem impl_Multiplicity.mono_l : ∀ k, (∀ y0 y1 y2 y3 y4, LeO (impl_Multiplicity.j0 k y0 y1 y2 y3 y4) (impl_Multiplicity.j0 (k + 1) y0 y1 y2 y3 y4)) ∧ (∀ y0 y1 y2 y3 y4 y5, LeO (impl_Multiplicity.l0 k y0 y1 y2 y3 y4 y5) (impl_Multiplicity.l0 (k + 1) y0 y1 y2 y3 y4 y5))
 | 0 => ⟨fun _ _ _ _ _ r h => by simp [impl_Multiplicity.j0] at h, fun _ _ _ _ _ _ r h => by simp [impl_Multiplicity.l0] at h⟩
 | k + 1 => by
  obtain ⟨ih0, ih1⟩ := impl_Multiplicity.mono_l k
  refine ⟨?_, ?_⟩
  ·intro y0 y1 y2 y3 y4
   unfold impl_Multiplicity.j0
   exact zm1
  ·intro y0 y1 y2 y3 y4 y5
   unfold impl_Multiplicity.l0
   exact zm1
theorem impl_Multiplicity.mono : ∀ a0 a1 a2 a3 k, LeO (impl_Multiplicity.f k a0 a1 a2 a3) (impl_Multiplicity.f (k + 1) a0 a1 a2 a3) := by
 intro a0 a1 a2 a3 k; obtain ⟨ih0, ih1⟩ := impl_Multiplicity.mono_l k; unfold impl_Multiplicity.f; exact zm1
set_option maxHeartbeats 8000000 in
set_option maxRecDepth 100000 in
theorem impl_Multiplicity.calls (k : Nat) (a0_0 : Int) (A0_1 : Option Addr) (c0_1 : Nat) (l0_1 : List (S83)) (a1 : Int) (a2 : Int) (r : Int) (w : World) (hr0_1 : Kd.C k83 w A0_1 l0_1.length l0_1) (hc0_1 : l0_1.length ≤ c0_1) (h : impl_Multiplicity.f k a0_0 l0_1 a1 a2 = some r) :
  Calls Try.prog 118 #[.agg #[.int .i64 a0_0, .slice A0_1 l0_1.length c0_1], .int .i64 a1, .int .i64 a2] w fun e w' => e = .returned (.int .i64 r) ∧ Below w.heap.size w w' := by
 have hu25 := Try.underlying25; have hu83 := Try.underlying83; have HR0_1 := Aside0.mk hr0_1; have HC0_1 := Aside0.mk hc0_1; clear hr0_1 hc0_1; have HB := Aside0.mk (Below.refl w.heap.size w); have H : (if (mn a1 a2) < 0 then (impl_Multiplicity.j0 k a1 a2 true a0_0 l0_1) else (if (mx a1 a2) ≥ a0_0 then (impl_Multiplicity.j0 k a1 a2 true a0_0 l0_1) else (impl_Multiplicity.j0 k a1 a2 (a1 == a2) a0_0 l0_1))) = some r := h; clear h; have HC4 := Aside0.mk H; clear H; go_enter Try.func118, Try.ntmps118; (go_upto_region 1 with (first | ((with_reducible refine gate_dst (N := 3) rfl ?_); (try (refine gate_guard (by rfl) ?_; dsimp only)); refine box_event ?hg (N := 3) ?hd (cs := #[.int .i64 a0_0, .slice A0_1 l0_1.length c0_1]) (t := 25) ?hr ?_; (case hd => rfl); (case hg => rfl); (case hr => exact zz19); intro gb101 hg w5 hbox hb; have n_ := zA4 (below_step zz2 hb) hbox (zz15 : w.heap.size ≤ gb101) (zz15 : w.heap.size ≤ gb101); clear HB; obtain ⟨HB, BK101, GW101, GE101⟩ := n_; clear hb hbox hg))); (try simp only [Act.put, List.setIfInBounds_toArray, List.set_cons_zero, List.set_cons_succ]); go_cut [26] (fun v26 wc => ∃ (kq : Nat) (x26_3 : Bool), v26 = .bool x26_3 ∧ Aside0 (impl_Multiplicity.j0 kq a1 a2 x26_3 a0_0 l0_1 = some r) ∧ Aside0 (kq ≤ k) ∧ Aside0 (wc.heap[gb101]? = some (.cells #[.int .i64 a0_0, (.slice A0_1 l0_1.length c0_1)] 25 (0, 0))) ∧ Aside0 (Below w.heap.size w wc))
 case first =>
  have H := HC4.out; clear HC4; obtain ⟨ji6, hji6⟩ : ∃ j_ : Int, (mn a1 a2) = j_ := ⟨_, rfl⟩; (replace H : (if (ji6) < 0 then (impl_Multiplicity.j0 k a1 a2 true a0_0 l0_1) else (if (mx a1 a2) ≥ a0_0 then (impl_Multiplicity.j0 k a1 a2 true a0_0 l0_1) else (impl_Multiplicity.j0 k a1 a2 (a1 == a2) a0_0 l0_1))) = some r := by first | (rw [hji6] at H; exact H) | (simp only [hji6] at H ⊢; exact H)); have hji6_ : (if a2 < a1 then a2 else a1) = ji6 := hji6; by_cases c7 : (ji6) < 0
  ·rw [if_pos c7] at H; have c7b0 := decide_eq_true c7; clear c7; (first | rw [c7b0] | (simp only [i64_w, i32_w]; rw [c7b0]) | skip); have H' := Aside0.mk H; clear H; go_wp2; (go_meet); case rel => exact ⟨_, (true), zz7, H', ⟨by first | omega | exact Nat.le_refl _⟩, ⟨zz1⟩, ⟨zz0⟩⟩
  rw [if_neg c7] at H; have c7b0 := decide_eq_false c7; clear c7; (first | rw [c7b0] | (simp only [i64_w, i32_w]; rw [c7b0]) | skip); obtain ⟨ji8, hji8⟩ : ∃ j_ : Int, (mx a1 a2) = j_ := ⟨_, rfl⟩; (replace H : (if (ji8) ≥ a0_0 then (impl_Multiplicity.j0 k a1 a2 true a0_0 l0_1) else (impl_Multiplicity.j0 k a1 a2 (a1 == a2) a0_0 l0_1)) = some r := by first | (rw [hji8] at H; exact H) | (simp only [hji8] at H ⊢; exact H)); have hji8_ : (if a1 < a2 then a2 else a1) = ji8 := hji8; by_cases c9 : (ji8) ≥ a0_0
  ·rw [if_pos c9] at H; have c9b0 : decide (a0_0 ≤ (ji8)) = true := decide_eq_true c9; clear c9; have H' := Aside0.mk H; clear H; have hcz10_0 := zC20 BK101; have hcz10_1 := zC21 BK101; have hfz10_0 := blk_frozen BK101.out 0; have hfz10_1 := blk_frozen BK101.out 1; go_wp2; (go_meet); case rel => exact ⟨_, (true), zz7, H', ⟨by first | omega | exact Nat.le_refl _⟩, ⟨zz1⟩, ⟨zz0⟩⟩
  rw [if_neg c9] at H; have c9b0 : decide (a0_0 ≤ (ji8)) = false := decide_eq_false c9; clear c9; have H' := Aside0.mk H; clear H; have hcz11_0 := zC20 BK101; have hcz11_1 := zC21 BK101; have hfz11_0 := blk_frozen BK101.out 0; have hfz11_1 := blk_frozen BK101.out 1; go_wp2; (go_meet); case rel => exact ⟨_, ((a1 == a2)), zz7, H', ⟨by first | omega | exact Nat.le_refl _⟩, ⟨zz1⟩, ⟨zz0⟩⟩
 case rest =>
  clear HC4; (try clear c1); (try clear p2); (try clear c7); (try clear c7b0); (try clear c9); (try clear c9b0); (try clear c11); (try clear hcz10_0); (try clear hcz10_1); (try clear hcz11_0); (try clear hcz11_1); (try clear hfz10_0); (try clear hfz10_1); (try clear hfz11_0); (try clear hfz11_1); obtain ⟨kq, x26_3, rfl, HA, HJ3, BK101, HB⟩ := hcut
  cases kq with
  | zero => exact absurd HA.out (by simp [impl_Multiplicity.j0])
  | succ kj3 =>
   have H := HA.out; clear HA; simp only [impl_Multiplicity.j0] at H; by_cases c12 : x26_3 = true
   ·subst c12; rw [if_pos rfl] at H; obtain rfl := Option.some.inj H; go_wp2; go_ret; exact ⟨zz10, zz0⟩
   replace c12 := Bool.eq_false_iff.mpr c12; subst c12; rw [if_neg (show ¬ (false = true) by decide)] at H; have H' := Aside0.mk H; clear H; have hcz13_0 := zC20 BK101; have hcz13_1 := zC21 BK101; have hfz13_0 := blk_frozen BK101.out 0; have hfz13_1 := blk_frozen BK101.out 1; go_wp2; (go_loopg [7, 30] kj3 (fun kq v7 v30 w' => ∃ (x7_2 : Int) (x30_2 : Int), v7 = .int .i64 x7_2 ∧ v30 = .int .i64 x30_2 ∧ Aside0 (impl_Multiplicity.l0 kq a1 a2 x7_2 l0_1 (l0_1.length : Int) x30_2 = some r) ∧ Aside0 (kq ≤ kj3) ∧ Aside0 (w'.heap[gb101]? = some (.cells #[.int .i64 a0_0, (.slice A0_1 l0_1.length c0_1)] 25 (0, 0))) ∧ Aside0 (Below w.heap.size w w'))); case atStart => exact ⟨(0), (0), zz7, zz7, H', ⟨Nat.le_refl _⟩, ⟨zz1⟩, ⟨zz0⟩⟩
   case round =>
    clear H'; (try clear c1); (try clear p2); (try clear c7); (try clear c7b0); (try clear c9); (try clear c9b0); (try clear c11); (try clear c12); (try clear hcz10_0); (try clear hcz10_1); (try clear hcz11_0); (try clear hcz11_1); (try clear hcz13_0); (try clear hcz13_1); (try clear hfz10_0); (try clear hfz10_1); (try clear hfz11_0); (try clear hfz11_1); (try clear hfz13_0); (try clear hfz13_1); (try clear p2); obtain ⟨x7_2, x30_2, rfl, rfl, HA, HK2, BK101, HB⟩ := hrel
    cases gk with
    | zero => exact absurd HA.out (by simp [impl_Multiplicity.l0])
    | succ k2 =>
     have H := HA.out; clear HA; simp only [impl_Multiplicity.l0] at H; by_cases c14 : x30_2 < (l0_1.length : Int); rotate_left
     ·rw [if_neg c14] at H; have c14b0 := decide_eq_false c14; clear c14; obtain rfl := Option.some.inj H; go_wp2; go_ret; exact ⟨zz10, zz0⟩
     rw [if_pos c14] at H; have c14b0 := decide_eq_true c14; clear c14; by_cases c15 : 0 ≤ x30_2; rotate_left
     ·rw [if_neg c15] at H; exact absurd H (by simp)
     rw [if_pos c15] at H; have c15b0 := decide_eq_true c15; clear c15; by_cases c16 : x30_2 < (l0_1.length : Int); rotate_left
     ·rw [if_neg c16] at H; exact absurd H (by simp)
     rw [if_pos c16] at H; have c16b0 := decide_eq_true c16; clear c16; obtain ⟨ji17, hji17⟩ : ∃ j_ : Int, (mn a1 a2) = j_ := ⟨_, rfl⟩; (replace H : (if ((rd_T83 l0_1 x30_2).f0) = (ji17) then (if ((rd_T83 l0_1 x30_2).f1) = (mx a1 a2) then (impl_Multiplicity.l0 k2 a1 a2 (wrap64 (x7_2 + 1)) l0_1 (l0_1.length : Int) (wrap64 (x30_2 + 1))) else (impl_Multiplicity.l0 k2 a1 a2 x7_2 l0_1 (l0_1.length : Int) (wrap64 (x30_2 + 1)))) else (impl_Multiplicity.l0 k2 a1 a2 x7_2 l0_1 (l0_1.length : Int) (wrap64 (x30_2 + 1)))) = some r := by first | (rw [hji17] at H; exact H) | (simp only [hji17] at H ⊢; exact H)); have hji17_ : (if a2 < a1 then a2 else a1) = ji17 := hji17; by_cases c18 : ((rd_T83 l0_1 x30_2).f0) = (ji17); rotate_left
     ·rw [if_neg c18] at H; have c18b0 : (((rd_T83 l0_1 x30_2).f0) == (ji17)) = false := beq_eq_false_iff_ne.mpr c18; have c18b1 : (((rd_T83 l0_1 x30_2).f0) != (ji17)) = true := bne_iff_ne.mpr c18; have H' := Aside0.mk H; clear H; have p102 : 0 ≤ (x30_2 : Int) := of_decide_eq_true zz4; have q102 : x30_2 < (l0_1.length : Int) := of_decide_eq_true zz4; obtain ⟨ad102, e102, hx102_0, hx102_1⟩ := at_T83 HR0_1.out x30_2 p102 q102; cases e102; replace hx102_0 := (HB.out.cell (World.block_lt_of_cell? w _ hx102_0)).trans hx102_0; replace hx102_1 := (HB.out.cell (World.block_lt_of_cell? w _ hx102_1)).trans hx102_1; replace p102 := eq_true p102; replace q102 := eq_true q102; (go_wp2_with (first | ((with_reducible refine gate_dst (N := 9) rfl ?_); (try (refine gate_guard (by rfl) ?_; dsimp only)); refine box_event ?hg (N := 9) ?hd (cs := #[.int .i64 0, .int .i64 0]) (t := 83) ?hr ?_; (case hd => rfl); (case hg => rfl); (case hr => exact zz19); intro gb103 hg w27 hbox hb; have n_ := zA7 (blk_below (g := gb101) (o := .cells #[.int .i64 a0_0, .slice (some ad102) l0_1.length c0_1] 25 (0, 0)) zz1 hb) (below_step zz0 hb) hbox (zz36 : w.heap.size ≤ gb103) (zz36 : w.heap.size ≤ gb103) (zz46 : gb101 ≠ gb103) (zz47 : gb103 ≠ gb101); clear BK101 HB; obtain ⟨BK101, HB, BK103, GW103, GE103, NB101_103, NB103_101⟩ := n_; clear hb hbox hg; have hnb28 := NB103_101.out; have hnc28 := NB101_103.out; have hcz29_0 := zC20 BK103; have hcz29_1 := zC21 BK103; have hfz29_0 := blk_frozen BK103.out 0; have hfz29_1 := blk_frozen BK103.out 1))); go_roundg k2; (case measure => have := HJ3.out; have := HK2.out; omega); case rel => exact ⟨(x7_2), (wrap64 (x30_2 + 1)), zz7, zz7, H', ⟨zz133⟩, ⟨zz33⟩, ⟨zz13⟩⟩
     rw [if_pos c18] at H; have c18b0 : (((rd_T83 l0_1 x30_2).f0) == (ji17)) = true := beq_iff_eq.mpr c18; have c18b1 : (((rd_T83 l0_1 x30_2).f0) != (ji17)) = false := bne_eq_false_iff_eq.mpr c18; clear c18; obtain ⟨ji19, hji19⟩ : ∃ j_ : Int, (mx a1 a2) = j_ := ⟨_, rfl⟩; (replace H : (if ((rd_T83 l0_1 x30_2).f1) = (ji19) then (impl_Multiplicity.l0 k2 a1 a2 (wrap64 (x7_2 + 1)) l0_1 (l0_1.length : Int) (wrap64 (x30_2 + 1))) else (impl_Multiplicity.l0 k2 a1 a2 x7_2 l0_1 (l0_1.length : Int) (wrap64 (x30_2 + 1)))) = some r := by first | (rw [hji19] at H; exact H) | (simp only [hji19] at H ⊢; exact H)); have hji19_ : (if a1 < a2 then a2 else a1) = ji19 := hji19; by_cases c20 : ((rd_T83 l0_1 x30_2).f1) = (ji19); rotate_left
     ·rw [if_neg c20] at H; have c20b0 : (((rd_T83 l0_1 x30_2).f1) == (ji19)) = false := beq_eq_false_iff_ne.mpr c20; have c20b1 : (((rd_T83 l0_1 x30_2).f1) != (ji19)) = true := bne_iff_ne.mpr c20; have H' := Aside0.mk H; clear H; have p102 : 0 ≤ (x30_2 : Int) := of_decide_eq_true zz4; have q102 : x30_2 < (l0_1.length : Int) := of_decide_eq_true zz4; obtain ⟨ad102, e102, hx102_0, hx102_1⟩ := at_T83 HR0_1.out x30_2 p102 q102; cases e102; replace hx102_0 := (HB.out.cell (World.block_lt_of_cell? w _ hx102_0)).trans hx102_0; replace hx102_1 := (HB.out.cell (World.block_lt_of_cell? w _ hx102_1)).trans hx102_1; replace p102 := eq_true p102; replace q102 := eq_true q102; (go_wp2_with (first | ((with_reducible refine gate_dst (N := 9) rfl ?_); (try (refine gate_guard (by rfl) ?_; dsimp only)); refine box_event ?hg (N := 9) ?hd (cs := #[.int .i64 0, .int .i64 0]) (t := 83) ?hr ?_; (case hd => rfl); (case hg => rfl); (case hr => exact zz19); intro gb103 hg w24 hbox hb; have n_ := zA7 (blk_below (g := gb101) (o := .cells #[.int .i64 a0_0, .slice (some ad102) l0_1.length c0_1] 25 (0, 0)) zz1 hb) (below_step zz0 hb) hbox (zz36 : w.heap.size ≤ gb103) (zz36 : w.heap.size ≤ gb103) (zz46 : gb101 ≠ gb103) (zz47 : gb103 ≠ gb101); clear BK101 HB; obtain ⟨BK101, HB, BK103, GW103, GE103, NB101_103, NB103_101⟩ := n_; clear hb hbox hg; have hnb25 := NB103_101.out; have hnc25 := NB101_103.out; have hcz26_0 := zC20 BK103; have hcz26_1 := zC21 BK103; have hfz26_0 := blk_frozen BK103.out 0; have hfz26_1 := blk_frozen BK103.out 1))); go_roundg k2; (case measure => have := HJ3.out; have := HK2.out; omega); case rel => exact ⟨(x7_2), (wrap64 (x30_2 + 1)), zz7, zz7, H', ⟨zz133⟩, ⟨zz33⟩, ⟨zz13⟩⟩
     rw [if_pos c20] at H; have c20b0 : (((rd_T83 l0_1 x30_2).f1) == (ji19)) = true := beq_iff_eq.mpr c20; have c20b1 : (((rd_T83 l0_1 x30_2).f1) != (ji19)) = false := bne_eq_false_iff_eq.mpr c20; clear c20; have H' := Aside0.mk H; clear H; have p102 : 0 ≤ (x30_2 : Int) := of_decide_eq_true zz4; have q102 : x30_2 < (l0_1.length : Int) := of_decide_eq_true zz4; obtain ⟨ad102, e102, hx102_0, hx102_1⟩ := at_T83 HR0_1.out x30_2 p102 q102; cases e102; replace hx102_0 := (HB.out.cell (World.block_lt_of_cell? w _ hx102_0)).trans hx102_0; replace hx102_1 := (HB.out.cell (World.block_lt_of_cell? w _ hx102_1)).trans hx102_1; replace p102 := eq_true p102; replace q102 := eq_true q102; (go_wp2_with (first | ((with_reducible refine gate_dst (N := 9) rfl ?_); (try (refine gate_guard (by rfl) ?_; dsimp only)); refine box_event ?hg (N := 9) ?hd (cs := #[.int .i64 0, .int .i64 0]) (t := 83) ?hr ?_; (case hd => rfl); (case hg => rfl); (case hr => exact zz19); intro gb103 hg w21 hbox hb; have n_ := zA7 (blk_below (g := gb101) (o := .cells #[.int .i64 a0_0, .slice (some ad102) l0_1.length c0_1] 25 (0, 0)) zz1 hb) (below_step zz0 hb) hbox (zz36 : w.heap.size ≤ gb103) (zz36 : w.heap.size ≤ gb103) (zz46 : gb101 ≠ gb103) (zz47 : gb103 ≠ gb101); clear BK101 HB; obtain ⟨BK101, HB, BK103, GW103, GE103, NB101_103, NB103_101⟩ := n_; clear hb hbox hg; have hnb22 := NB103_101.out; have hnc22 := NB101_103.out; have hcz23_0 := zC20 BK103; have hcz23_1 := zC21 BK103; have hfz23_0 := blk_frozen BK103.out 0; have hfz23_1 := blk_frozen BK103.out 1))); go_roundg k2; (case measure => have := HJ3.out; have := HK2.out; omega); case rel => exact ⟨(wrap64 (x7_2 + 1)), (wrap64 (x30_2 + 1)), zz7, zz7, H', ⟨zz133⟩, ⟨zz33⟩, ⟨zz13⟩⟩
end Go.Proofs.Ytgobnfeahffnaaa.P
end

section
namespace Go.Proofs.Ytgobnfeahffnaaa.P
open Go.RowKit Go.Proofs.YtgobnfeahffnaaaW.PrintWords Go.Proofs.YtgobnfeahffnaaaW.PrintLast Go.Proofs.YtgobnfeahffnaaaW.PrintMore
attribute [local go_sem] max2_int min2_int max_two min_two max_three min_three max_four min_four
set_option linter.unusedVariables false
set_option linter.unusedSimpArgs false
mutual
def impl_burn.l0 : Nat → List Int → List Int → Int → List (S83) → Option (List Int)
 | 0, _, _, _, _ => none
 | k + 1, x1, x7, x102000, x102001 => impl_burn.l1 k x1 x7 (-1) 0 x102000 x102001
def impl_burn.l1 : Nat → List Int → List Int → Int → Int → Int → List (S83) → Option (List Int)
 | 0, _, _, _, _, _, _ => none
 | k + 1, x1, x7, x8, x9, x102000, x102001 => if x9 < x102000 then (impl_burn.j2 k x1 x7 x8 x9 (decide (x8 < 0)) x102000 x102001) else (impl_burn.j2 k x1 x7 x8 x9 false x102000 x102001)
def impl_burn.j2 : Nat → List Int → List Int → Int → Int → Bool → Int → List (S83) → Option (List Int)
 | 0, _, _, _, _, _, _, _ => none
 | k + 1, x1, x7, x8, x9, x22, x102000, x102001 => if x22 = true then (impl_burn.l2 k x1 x7 x8 x9 0 x7 (x7.length : Int) 0 x102000 x102001) else (if x8 < 0 then (some x7) else (if x7.length < 17592186044416 then (impl_burn.l0 k x1 (x7 ++ [x8]) x102000 x102001) else (none)))
def impl_burn.l2 : Nat → List Int → List Int → Int → Int → Int → List Int → Int → Int → Int → List (S83) → Option (List Int)
 | 0, _, _, _, _, _, _, _, _, _, _ => none
 | k + 1, x1, x7, x8, x9, x10, x25, x26, x27, x102000, x102001 => if x27 < x26 then (if 0 ≤ x27 then (if x27 < (x25.length : Int) then ((impl_Multiplicity.f k x102000 x102001 x9 (rd x25 x27)).bind fun t109 => (impl_burn.l2 k x1 x7 x8 x9 (wrap64 (x10 + t109)) x25 x26 (wrap64 (x27 + 1)) x102000 x102001)) else (none)) else (none)) else ((slices_Contains_int_int.f k x7 x9).bind fun t110 => (if t110 = true then (impl_burn.l1 k x1 x7 x8 (wrap64 (x9 + 1)) x102000 x102001) else (if 0 ≤ x9 then (if x9 < (x1.length : Int) then (if (rd x1 x9) < x10 then (impl_burn.l1 k x1 x7 x9 (wrap64 (x9 + 1)) x102000 x102001) else (impl_burn.l1 k x1 x7 x8 (wrap64 (x9 + 1)) x102000 x102001)) else (none)) else (none))))
end
def impl_burn.f (k : Nat) (a0_0 : Int) (l0_1 : List (S83)) (l1 : List Int) (a2 : Int) : Option (List Int) := impl_burn.l0 k l1 (([a2] : List Int)) a0_0 l0_1
theorem impl_burn.mono_l : ∀ k, (∀ y0 y1 y2 y3, LeO (impl_burn.l0 k y0 y1 y2 y3) (impl_burn.l0 (k + 1) y0 y1 y2 y3)) ∧ (∀ y0 y1 y2 y3 y4 y5, LeO (impl_burn.l1 k y0 y1 y2 y3 y4 y5) (impl_burn.l1 (k + 1) y0 y1 y2 y3 y4 y5)) ∧ (∀ y0 y1 y2 y3 y4 y5 y6, LeO (impl_burn.j2 k y0 y1 y2 y3 y4 y5 y6) (impl_burn.j2 (k + 1) y0 y1 y2 y3 y4 y5 y6)) ∧ (∀ y0 y1 y2 y3 y4 y5 y6 y7 y8 y9, LeO (impl_burn.l2 k y0 y1 y2 y3 y4 y5 y6 y7 y8 y9) (impl_burn.l2 (k + 1) y0 y1 y2 y3 y4 y5 y6 y7 y8 y9))
 | 0 => ⟨fun _ _ _ _ r h => by simp [impl_burn.l0] at h, fun _ _ _ _ _ _ r h => by simp [impl_burn.l1] at h, fun _ _ _ _ _ _ _ r h => by simp [impl_burn.j2] at h, fun _ _ _ _ _ _ _ _ _ _ r h => by simp [impl_burn.l2] at h⟩
 | k + 1 => by
  obtain ⟨ih0, ih1, ih2, ih3⟩ := impl_burn.mono_l k
  refine ⟨?_, ?_, ?_, ?_⟩
  ·intro y0 y1 y2 y3
   unfold impl_burn.l0
   exact zm4
  ·intro y0 y1 y2 y3 y4 y5
   unfold impl_burn.l1
   exact zm4
  ·intro y0 y1 y2 y3 y4 y5 y6
   unfold impl_burn.j2
   exact zm4
  ·intro y0 y1 y2 y3 y4 y5 y6 y7 y8 y9
   unfold impl_burn.l2
   exact zm4
theorem impl_burn.mono : ∀ a0 a1 a2 a3 k, LeO (impl_burn.f k a0 a1 a2 a3) (impl_burn.f (k + 1) a0 a1 a2 a3) := by
 intro a0 a1 a2 a3 k; obtain ⟨ih0, ih1, ih2, ih3⟩ := impl_burn.mono_l k; unfold impl_burn.f; exact zm4
set_option maxHeartbeats 8000000 in
set_option maxRecDepth 100000 in
theorem impl_burn.calls (k : Nat) (a0_0 : Int) (A0_1 : Option Addr) (c0_1 : Nat) (l0_1 : List (S83)) (A1 : Option Addr) (c1 : Nat) (l1 : List Int) (a2 : Int) (r : List Int) (w : World) (hr0_1 : Kd.C k83 w A0_1 l0_1.length l0_1) (hc0_1 : l0_1.length ≤ c0_1) (hr1 : Kd.C (Kd.int .i64) w A1 l1.length l1) (hc1 : l1.length ≤ c1) (h : impl_burn.f k a0_0 l0_1 l1 a2 = some r) :
  Calls Try.prog 102 #[.agg #[.int .i64 a0_0, .slice A0_1 l0_1.length c0_1], .slice A1 l1.length c1, .int .i64 a2] w fun e w' => ∃ v0_ : Value, e = .returned (v0_) ∧ Kd.R (Kd.int .i64) 3 w' w.heap.size (fun _ => True) v0_ r ∧ Below w.heap.size w w' := by
 have hu25 := Try.underlying25; have HR0_1 := Aside0.mk hr0_1; have HC0_1 := Aside0.mk hc0_1; clear hr0_1 hc0_1; have HR1 := Aside0.mk hr1; have HC1 := Aside0.mk hc1; clear hr1 hc1; have HB := Aside0.mk (Below.refl w.heap.size w); have H : (impl_burn.l0 k l1 (([a2] : List Int)) a0_0 l0_1) = some r := h; clear h; obtain ⟨y102, hy_⟩ : ∃ y_ : List Int, y_ = (([a2] : List Int)) := ⟨_, rfl⟩; (replace H : (impl_burn.l0 k l1 y102 a0_0 l0_1) = some r := zzY); have Ny102 := Aside0.mk hy_; clear hy_; have H' := Aside0.mk H; clear H; go_enter Try.func102, Try.ntmps102; (go_wp2_with (first | ((with_reducible refine gate_dst (N := 3) rfl ?_); refine box_event ?hg (N := 3) ?hd (cs := #[.int .i64 a0_0, .slice A0_1 l0_1.length c0_1]) (t := 25) ?hr ?_; (case hd => rfl); (case hg => rfl); (case hr => exact zz19); intro gb101 hg w4 hbox hb; have n_ := zA4 (below_step zz2 hb) hbox (zz15 : w.heap.size ≤ gb101) (zz15 : w.heap.size ≤ gb101); clear HB; obtain ⟨HB, BK101, GW101, GE101⟩ := n_; clear hb hbox hg) | ((with_reducible refine gate_dst (N := 14) rfl ?_); refine Kd.R_lit (Kd.int .i64) _ 3 ?hg (N := 14) ?hd (xs := ([a2] : List Int)) (inner := [.int .i64 a2]) (ok := fun _ => True) (okp := fun _ => True) ?hr ?hp (fun _ hk => hk) trivial (Below.refl _ _) (Nat.le_refl _) (by simp) ?_; (case hd => rfl); (case hg => rfl); (case hr => exact zz19); (case hp => exact (Reps.one (show Kd.M (Kd.int .i64) _ _ _ a2 [.int .i64 a2] from rfl) (Reps.none _ _))); intro v103 w5 ho6 hb hg_ hnew_; clear hg_ hnew_; (first | rw [← Ny102.out] at ho6 | (simp only [Int.reduceToNat] at ho6; rw [← Ny102.out] at ho6)); have n_ := zA3 (Kd.R_lower ho6 (below_size zz0)) (blk_below (g := gb101) (o := .cells #[.int .i64 a0_0, .slice A0_1 l0_1.length c0_1] 25 (0, 0)) zz1 hb) (below_step zz0 hb); clear BK101 HB; obtain ⟨HO104, BK101, HB⟩ := n_; clear hb ho6))); (go_loopg [7] k (fun kq v7 w' => ∃ (x7_1 : List Int), Aside0 (impl_burn.l0 kq l1 x7_1 a0_0 l0_1 = some r) ∧ Aside0 (kq ≤ k) ∧ Aside0 (Kd.R (Kd.int .i64) 3 w' w.heap.size (fun _ => True) v7 x7_1) ∧ Aside0 (w'.heap[gb101]? = some (.cells #[.int .i64 a0_0, (.slice A0_1 l0_1.length c0_1)] 25 (0, 0))) ∧ Aside0 (Below w.heap.size w w'))); case atStart => exact ⟨(y102), H', ⟨Nat.le_refl _⟩, ⟨zz25⟩, ⟨zz1⟩, ⟨zz0⟩⟩
 case round =>
  clear H'; (try clear c1); (try clear p2); obtain ⟨x7_1, HA, HK1, HO_7, BK101, HB⟩ := hrel
  cases gk with
  | zero => exact absurd HA.out (by simp [impl_burn.l0])
  | succ k1 =>
   have H := HA.out; clear HA; simp only [impl_burn.l0] at H; have H' := Aside0.mk H; clear H; go_wp2; (go_loopg [8, 9] k1 (fun kq v8 v9 w' => ∃ (x8_2 : Int) (x9_2 : Int), v8 = .int .i64 x8_2 ∧ v9 = .int .i64 x9_2 ∧ Aside0 (impl_burn.l1 kq l1 x7_1 x8_2 x9_2 a0_0 l0_1 = some r) ∧ Aside0 (kq ≤ k1) ∧ Aside0 (Kd.R (Kd.int .i64) 3 w' w.heap.size (fun _ => True) u7 x7_1) ∧ Aside0 (w'.heap[gb101]? = some (.cells #[.int .i64 a0_0, (.slice A0_1 l0_1.length c0_1)] 25 (0, 0))) ∧ Aside0 (Below w.heap.size w w'))); case atStart => exact ⟨((-1)), (0), zz7, zz7, H', ⟨Nat.le_refl _⟩, ⟨zz66⟩, ⟨zz1⟩, ⟨zz0⟩⟩
   case round =>
    clear H'; (try clear c1); (try clear p2); (try clear p2); obtain ⟨x8_2, x9_2, rfl, rfl, HA, HK2, HO_7, BK101, HB⟩ := hrel
    cases gk with
    | zero => exact absurd HA.out (by simp [impl_burn.l1])
    | succ k2 =>
     have H := HA.out; clear HA; simp only [impl_burn.l1] at H; have HC7 := Aside0.mk H; clear H; (go_upto_region 4 with (fail)); go_cut [22] (fun v22 wc => ∃ (kq : Nat) (x22_6 : Bool), v22 = .bool x22_6 ∧ Aside0 (impl_burn.j2 kq l1 x7_1 x8_2 x9_2 x22_6 a0_0 l0_1 = some r) ∧ Aside0 (kq ≤ k2) ∧ Aside0 (Kd.R (Kd.int .i64) 3 wc w.heap.size (fun _ => True) u7 x7_1) ∧ Aside0 (wc.heap[gb101]? = some (.cells #[.int .i64 a0_0, (.slice A0_1 l0_1.length c0_1)] 25 (0, 0))) ∧ Aside0 (Below w.heap.size w wc))
     case first =>
      have H := HC7.out; clear HC7; by_cases c8 : x9_2 < a0_0
      ·rw [if_pos c8] at H; have c8b0 := decide_eq_true c8; clear c8; (first | rw [c8b0] | (simp only [i64_w, i32_w]; rw [c8b0]) | skip); have H' := Aside0.mk H; clear H; have hcz9_0 := zC20 BK101; have hcz9_1 := zC21 BK101; have hfz9_0 := blk_frozen BK101.out 0; have hfz9_1 := blk_frozen BK101.out 1; go_wp2; (go_meet); case rel => exact ⟨_, (decide (x8_2 < 0)), zz7, H', ⟨by have := HK1.out; have := HK2.out; first | omega | exact Nat.le_refl _⟩, ⟨zz66⟩, ⟨zz1⟩, ⟨zz0⟩⟩
      rw [if_neg c8] at H; have c8b0 := decide_eq_false c8; clear c8; (first | rw [c8b0] | (simp only [i64_w, i32_w]; rw [c8b0]) | skip); have H' := Aside0.mk H; clear H; have hcz10_0 := zC20 BK101; have hcz10_1 := zC21 BK101; have hfz10_0 := blk_frozen BK101.out 0; have hfz10_1 := blk_frozen BK101.out 1; go_wp2; (go_meet); case rel => exact ⟨_, (false), zz7, H', ⟨by have := HK1.out; have := HK2.out; first | omega | exact Nat.le_refl _⟩, ⟨zz66⟩, ⟨zz1⟩, ⟨zz0⟩⟩
     case rest =>
      clear HC7; (try clear c1); (try clear p2); (try clear c8); (try clear c8b0); (try clear c10); (try clear hcz10_0); (try clear hcz10_1); (try clear hcz9_0); (try clear hcz9_1); (try clear hfz10_0); (try clear hfz10_1); (try clear hfz9_0); (try clear hfz9_1); (try clear p2); obtain ⟨kq, x22_6, rfl, HA, HJ6, HO_7, BK101, HB⟩ := hcut
      cases kq with
      | zero => exact absurd HA.out (by simp [impl_burn.j2])
      | succ kj6 =>
       have H := HA.out; clear HA; simp only [impl_burn.j2] at H; by_cases c11 : x22_6 = true; rotate_left
       ·replace c11 := Bool.eq_false_iff.mpr c11; subst c11; rw [if_neg (show ¬ (false = true) by decide)] at H; by_cases c24 : x8_2 < 0
        ·rw [if_pos c24] at H; have c24b0 := decide_eq_true c24; clear c24; obtain rfl := Option.some.inj H; go_wp2; go_ret; exact ⟨_, zz10, zz66, zz0⟩
        rw [if_neg c24] at H; have c24b0 := decide_eq_false c24; clear c24; by_cases c25 : x7_1.length < 17592186044416; rotate_left
        ·rw [if_neg c25] at H; exact absurd H (by simp)
        rw [if_pos c25] at H; have LMc25 := Aside0.mk c25; clear c25; obtain ⟨y105, hy_⟩ : ∃ y_ : List Int, y_ = (x7_1 ++ [x8_2]) := ⟨_, rfl⟩; (replace H : (impl_burn.l0 kj6 l1 y105 a0_0 l0_1) = some r := zzY); have Ny105 := Aside0.mk hy_; clear hy_; have H' := Aside0.mk H; clear H; (go_wp2_with (first | ((with_reducible refine gate_builtin (b := .append) (xs := #[.tmp 54, .tmp 56]) rfl ?_); at_builtin; refine Kd.R_append (Kd.int .i64) (w0 := w) w.heap.size rfl (.tmp 54) (.tmp 56) 28 3 (.int .i64 0) 8 rfl Try.underlying28 info3 rfl (by decide) (by omega) u7 x7_1 x8_2 [.int .i64 x8_2] (fun _ => True) (fun _ => False) rfl rfl ?aP (fun _ hk => hk.elim) ?aF ?aO ?aB ?aS ?aL ?_; (case aP => exact rfl); (case aB => exact zz0); (case aF => exact (fun _ _ => trivial)); (case aO => exact (by (with_reducible repeat (first | apply Kd.R_alloc | apply Kd.R_drewN | apply Kd.R_drew)); exact HO_7.out)); (case aS => exact (below_size zz0)); (case aL => have := LMc25.out; omega); intro v106 w26 ho hb hg hat; rw [← Ny105.out] at ho; have n_ := zA3 (blk_grown (g := gb101) (o := .cells #[.int .i64 a0_0, .slice A0_1 l0_1.length c0_1] 25 (0, 0)) zz1 hg (Kd.R_ne HO_7.out BK101.out (by decide))) hb ho; clear BK101 HB HO_7; obtain ⟨BK101, HB, HO107⟩ := n_; clear ho hb hg hat))); go_roundg kj6; (case measure => have := HK1.out; have := HK2.out; have := HJ6.out; omega); case rel => exact ⟨(y105), H', ⟨by have := HK1.out; have := HK2.out; have := HJ6.out; omega⟩, ⟨by (with_reducible repeat (first | apply Kd.R_alloc | apply Kd.R_drewN | apply Kd.R_drew)); exact HO107.out⟩, ⟨zz1⟩, ⟨zz0⟩⟩
       subst c11; rw [if_pos rfl] at H; have H' := Aside0.mk H; clear H; obtain ⟨Ao12, co12, eo12⟩ := Kd.R_slice HO_7.out; subst eo12; go_wp2; (go_loopg [10, 27] kj6 (fun kq v10 v27 w' => ∃ (x10_4 : Int) (x27_4 : Int), v10 = .int .i64 x10_4 ∧ v27 = .int .i64 x27_4 ∧ Aside0 (impl_burn.l2 kq l1 x7_1 x8_2 x9_2 x10_4 x7_1 (x7_1.length : Int) x27_4 a0_0 l0_1 = some r) ∧ Aside0 (kq ≤ kj6) ∧ Aside0 (Kd.R (Kd.int .i64) 3 w' w.heap.size (fun _ => True) (.slice Ao12 x7_1.length co12) x7_1) ∧ Aside0 (Kd.R (Kd.int .i64) 3 w' w.heap.size (fun _ => True) (.slice Ao12 x7_1.length co12) x7_1) ∧ Aside0 (w'.heap[gb101]? = some (.cells #[.int .i64 a0_0, (.slice A0_1 l0_1.length c0_1)] 25 (0, 0))) ∧ Aside0 (Below w.heap.size w w'))); case atStart => exact ⟨(0), (0), zz7, zz7, H', ⟨Nat.le_refl _⟩, ⟨zz66⟩, ⟨zz66⟩, ⟨zz1⟩, ⟨zz0⟩⟩
       case round =>
        clear H'; (try clear c1); (try clear p2); (try clear c8); (try clear c8b0); (try clear c10); (try clear c11); (try clear hcz10_0); (try clear hcz10_1); (try clear hcz9_0); (try clear hcz9_1); (try clear hfz10_0); (try clear hfz10_1); (try clear hfz9_0); (try clear hfz9_1); (try clear p2); obtain ⟨x10_4, x27_4, rfl, rfl, HA, HK4, HO_7, HO_25, BK101, HB⟩ := hrel
        cases gk with
        | zero => exact absurd HA.out (by simp [impl_burn.l2])
        | succ k4 =>
         have H := HA.out; clear HA; simp only [impl_burn.l2] at H; by_cases c13 : x27_4 < (x7_1.length : Int)
         ·rw [if_pos c13] at H; have c13b0 := decide_eq_true c13; clear c13; by_cases c14 : 0 ≤ x27_4; rotate_left
          ·rw [if_neg c14] at H; exact absurd H (by simp)
          rw [if_pos c14] at H; have c14b0 := decide_eq_true c14; clear c14; by_cases c15 : x27_4 < (x7_1.length : Int); rotate_left
          ·rw [if_neg c15] at H; exact absurd H (by simp)
          rw [if_pos c15] at H; have c15b0 := decide_eq_true c15; clear c15; replace H := Option.bind_eq_some_iff.mp H; obtain ⟨t109, A160, H⟩ := H; (try dsimp only at H); have A16 := Aside0.mk A160; clear A160; have H' := Aside0.mk H; clear H; have p108 : 0 ≤ (x27_4 : Int) := of_decide_eq_true zz4; have q108 : x27_4 < (x7_1.length : Int) := of_decide_eq_true zz4; obtain ⟨ad108, e108, hx108_0⟩ := Kd.at_int (Kd.R_reads' HO_25.out).2.2 x27_4 p108 q108; cases e108; replace p108 := eq_true p108; replace q108 := eq_true q108; have hcz17_0 := zC20 BK101; have hcz17_1 := zC21 BK101; have hfz17_0 := blk_frozen BK101.out 0; have hfz17_1 := blk_frozen BK101.out 1; (go_wp2_with (first | ((with_reducible refine gate_callee (f := 118) rfl ?_); refine goesL_ (some 35) rfl rfl Try.func118 (by kernel_rfl) rfl #[.agg #[.int .i64 a0_0, .slice A0_1 l0_1.length c0_1], .int .i64 x9_2, .int .i64 (rd x7_1 x27_4)] rfl zz3 ?_; (with_reducible refine (impl_Multiplicity.calls k4 a0_0 _ _ l0_1 x9_2 (rd x7_1 x27_4) t109 _ ?side1 ?side2 A16.out).mono ?_); (case side1 => exact zz5); (case side2 => exact HC0_1.out); rintro e w18 ⟨rfl, hb⟩; refine ⟨_, rfl, ?_⟩; have n_ := zA4 (Kd.R_below (by (with_reducible repeat (first | apply Kd.R_alloc | apply Kd.R_drewN | apply Kd.R_drew)); exact HO_7.out) hb) (Kd.R_below (by (with_reducible repeat (first | apply Kd.R_alloc | apply Kd.R_drewN | apply Kd.R_drew)); exact HO_25.out) hb) (blk_below (g := gb101) (o := .cells #[.int .i64 a0_0, .slice A0_1 l0_1.length c0_1] 25 (0, 0)) zz1 hb) (below_step zz0 hb); clear HO_7 HO_25 BK101 HB; obtain ⟨HO_7, HO_25, BK101, HB⟩ := n_; clear hb))); go_roundg k4; (case measure => have := HK1.out; have := HK2.out; have := HJ6.out; have := HK4.out; omega); case rel => exact ⟨(wrap64 (x10_4 + t109)), (wrap64 (x27_4 + 1)), zz7, zz7, H', ⟨by have := HK1.out; have := HK2.out; have := HJ6.out; have := HK4.out; omega⟩, ⟨zz66⟩, ⟨by (with_reducible repeat (first | apply Kd.R_alloc | apply Kd.R_drewN | apply Kd.R_drew)); exact HO_25.out⟩, ⟨zz1⟩, ⟨zz0⟩⟩
         rw [if_neg c13] at H; have c13b0 := decide_eq_false c13; clear c13; replace H := Option.bind_eq_some_iff.mp H; obtain ⟨t110, A190, H⟩ := H; (try dsimp only at H); have A19 := Aside0.mk A190; clear A190; by_cases c20 : t110 = true
         ·subst c20; rw [if_pos rfl] at H; have H' := Aside0.mk H; clear H; (go_wp2_with (first | ((with_reducible refine gate_callee (f := 85) rfl ?_); refine goesL_ (some 40) rfl rfl Try.func85 (by kernel_rfl) rfl #[.slice Ao12 x7_1.length co12, .int .i64 x9_2] rfl zz3 ?_; (with_reducible refine (slices_Contains_int_int.calls k4 _ _ x7_1 x9_2 true _ ?side1 ?side2 A19.out).mono ?_); (case side1 => repeat (first | exact (Kd.R_reads' HO_7.out).2.2 | (with_reducible refine Kd.C_alloc ?_ _) | (with_reducible refine Kd.C_drewN ?_ _) | (with_reducible refine Kd.C_drew ?_))); (case side2 => exact (Kd.R_reads' HO_7.out).2.1); rintro e w' ⟨rfl, ⟨nd, rfl⟩⟩; refine ⟨_, rfl, ?_⟩))); go_roundg k4; (case measure => have := HK1.out; have := HK2.out; have := HJ6.out; have := HK4.out; omega); case rel => exact ⟨(x8_2), (wrap64 (x9_2 + 1)), zz7, zz7, H', ⟨by have := HK1.out; have := HK2.out; have := HJ6.out; have := HK4.out; omega⟩, ⟨zz66⟩, ⟨zz1⟩, ⟨zz0⟩⟩
         replace c20 := Bool.eq_false_iff.mpr c20; subst c20; rw [if_neg (show ¬ (false = true) by decide)] at H; by_cases c21 : 0 ≤ x9_2; rotate_left
         ·rw [if_neg c21] at H; exact absurd H (by simp)
         rw [if_pos c21] at H; have c21b0 := decide_eq_true c21; clear c21; by_cases c22 : x9_2 < (l1.length : Int); rotate_left
         ·rw [if_neg c22] at H; exact absurd H (by simp)
         rw [if_pos c22] at H; have c22b0 := decide_eq_true c22; clear c22; by_cases c23 : (rd l1 x9_2) < x10_4
         ·rw [if_pos c23] at H; have c23b0 := decide_eq_true c23; clear c23; have H' := Aside0.mk H; clear H; (go_wp2_with (first | ((with_reducible refine gate_callee (f := 85) rfl ?_); refine goesL_ (some 40) rfl rfl Try.func85 (by kernel_rfl) rfl #[.slice Ao12 x7_1.length co12, .int .i64 x9_2] rfl zz3 ?_; (with_reducible refine (slices_Contains_int_int.calls k4 _ _ x7_1 x9_2 false _ ?side1 ?side2 A19.out).mono ?_); (case side1 => repeat (first | exact (Kd.R_reads' HO_7.out).2.2 | (with_reducible refine Kd.C_alloc ?_ _) | (with_reducible refine Kd.C_drewN ?_ _) | (with_reducible refine Kd.C_drew ?_))); (case side2 => exact (Kd.R_reads' HO_7.out).2.1); rintro e w' ⟨rfl, ⟨nd, rfl⟩⟩; refine ⟨_, rfl, ?_⟩; have p111 : 0 ≤ (x9_2 : Int) := of_decide_eq_true zz4; have q111 : x9_2 < (l1.length : Int) := of_decide_eq_true zz4; obtain ⟨ad111, e111, hx111_0⟩ := Kd.at_int HR1.out x9_2 p111 q111; cases e111; replace hx111_0 := (HB.out.cell (World.block_lt_of_cell? w _ hx111_0)).trans hx111_0; replace p111 := eq_true p111; replace q111 := eq_true q111))); go_roundg k4; (case measure => have := HK1.out; have := HK2.out; have := HJ6.out; have := HK4.out; omega); case rel => exact ⟨(x9_2), (wrap64 (x9_2 + 1)), zz7, zz7, H', ⟨by have := HK1.out; have := HK2.out; have := HJ6.out; have := HK4.out; omega⟩, ⟨zz66⟩, ⟨zz1⟩, ⟨zz0⟩⟩
         rw [if_neg c23] at H; have c23b0 := decide_eq_false c23; clear c23; have H' := Aside0.mk H; clear H; (go_wp2_with (first | ((with_reducible refine gate_callee (f := 85) rfl ?_); refine goesL_ (some 40) rfl rfl Try.func85 (by kernel_rfl) rfl #[.slice Ao12 x7_1.length co12, .int .i64 x9_2] rfl zz3 ?_; (with_reducible refine (slices_Contains_int_int.calls k4 _ _ x7_1 x9_2 false _ ?side1 ?side2 A19.out).mono ?_); (case side1 => repeat (first | exact (Kd.R_reads' HO_7.out).2.2 | (with_reducible refine Kd.C_alloc ?_ _) | (with_reducible refine Kd.C_drewN ?_ _) | (with_reducible refine Kd.C_drew ?_))); (case side2 => exact (Kd.R_reads' HO_7.out).2.1); rintro e w' ⟨rfl, ⟨nd, rfl⟩⟩; refine ⟨_, rfl, ?_⟩; have p111 : 0 ≤ (x9_2 : Int) := of_decide_eq_true zz4; have q111 : x9_2 < (l1.length : Int) := of_decide_eq_true zz4; obtain ⟨ad111, e111, hx111_0⟩ := Kd.at_int HR1.out x9_2 p111 q111; cases e111; replace hx111_0 := (HB.out.cell (World.block_lt_of_cell? w _ hx111_0)).trans hx111_0; replace p111 := eq_true p111; replace q111 := eq_true q111))); go_roundg k4; (case measure => have := HK1.out; have := HK2.out; have := HJ6.out; have := HK4.out; omega); case rel => exact ⟨(x8_2), (wrap64 (x9_2 + 1)), zz7, zz7, H', ⟨by have := HK1.out; have := HK2.out; have := HJ6.out; have := HK4.out; omega⟩, ⟨zz66⟩, ⟨zz1⟩, ⟨zz0⟩⟩
end Go.Proofs.Ytgobnfeahffnaaa.P
end

section
namespace Go.Proofs.Ytgobnfeahffnaaa.P
open Go.RowKit Go.Proofs.YtgobnfeahffnaaaW.PrintWords Go.Proofs.YtgobnfeahffnaaaW.PrintLast Go.Proofs.YtgobnfeahffnaaaW.PrintMore
attribute [local go_sem] max2_int min2_int max_two min_two max_three min_three max_four min_four
set_option linter.unusedVariables false
set_option linter.unusedSimpArgs false
def impl_isVertex.f (a0_0 : Int) (l0_1 : List (S83)) (a1 : Int) : Option (Bool) := (impl_GraphOk.f a0_0 l0_1).bind fun t102 => (if t102 = true then ((impl_within.f a1 0 (wrap64 (a0_0 - 1))).bind fun t103 => (some t103)) else (some false))
set_option maxHeartbeats 8000000 in
set_option maxRecDepth 100000 in
theorem impl_isVertex.calls (a0_0 : Int) (A0_1 : Option Addr) (c0_1 : Nat) (l0_1 : List (S83)) (a1 : Int) (r : Bool) (w : World) (hr0_1 : Kd.C k83 w A0_1 l0_1.length l0_1) (hc0_1 : l0_1.length ≤ c0_1) (h : impl_isVertex.f a0_0 l0_1 a1 = some r) :
  Calls Try.prog 53 #[.agg #[.int .i64 a0_0, .slice A0_1 l0_1.length c0_1], .int .i64 a1] w fun e w' => e = .returned (.bool r) ∧ Below w.heap.size w w' := by
 have hu25 := Try.underlying25; have HR0_1 := Aside0.mk hr0_1; have HC0_1 := Aside0.mk hc0_1; clear hr0_1 hc0_1; have HB := Aside0.mk (Below.refl w.heap.size w); have H : ((impl_GraphOk.f a0_0 l0_1).bind fun t102 => (if t102 = true then ((impl_within.f a1 0 (wrap64 (a0_0 - 1))).bind fun t103 => (some t103)) else (some false))) = some r := h; clear h; replace H := Option.bind_eq_some_iff.mp H; obtain ⟨t102, A30, H⟩ := H; (try dsimp only at H); have A3 := Aside0.mk A30; clear A30; by_cases c4 : t102 = true; rotate_left
 ·replace c4 := Bool.eq_false_iff.mpr c4; subst c4; rw [if_neg (show ¬ (false = true) by decide)] at H; obtain rfl := Option.some.inj H; go_enter Try.func53, Try.ntmps53; (go_wp2_with (first | ((with_reducible refine gate_dst (N := 2) rfl ?_); refine box_event ?hg (N := 2) ?hd (cs := #[.int .i64 a0_0, .slice A0_1 l0_1.length c0_1]) (t := 25) ?hr ?_; (case hd => rfl); (case hg => rfl); (case hr => exact zz19); intro gb101 hg w10 hbox hb; have n_ := zA4 (below_step zz2 hb) hbox (zz15 : w.heap.size ≤ gb101) (zz15 : w.heap.size ≤ gb101); clear HB; obtain ⟨HB, BK101, GW101, GE101⟩ := n_; clear hb hbox hg; have hcz11_0 := zC20 BK101; have hcz11_1 := zC21 BK101; have hfz11_0 := blk_frozen BK101.out 0; have hfz11_1 := blk_frozen BK101.out 1) | ((with_reducible refine gate_callee (f := 82) rfl ?_); refine goesL_ (some 6) rfl rfl Try.func82 (by kernel_rfl) rfl #[.agg #[.int .i64 a0_0, .slice A0_1 l0_1.length c0_1]] rfl zz3 ?_; (with_reducible refine (impl_GraphOk.calls a0_0 _ _ l0_1 false _ ?side1 ?side2 A3.out).mono ?_); (case side1 => exact zz5); (case side2 => exact HC0_1.out); rintro e w12 ⟨rfl, hb⟩; refine ⟨_, rfl, ?_⟩; have n_ := zA2 (blk_below (g := gb101) (o := .cells #[.int .i64 a0_0, .slice A0_1 l0_1.length c0_1] 25 (0, 0)) zz1 hb) (below_step zz0 hb); clear BK101 HB; obtain ⟨BK101, HB⟩ := n_; clear hb))); go_ret; exact ⟨zz10, zz0⟩
 subst c4; rw [if_pos rfl] at H; replace H := Option.bind_eq_some_iff.mp H; obtain ⟨t103, A50, H⟩ := H; (try dsimp only at H); have A5 := Aside0.mk A50; clear A50; obtain rfl := Option.some.inj H; go_enter Try.func53, Try.ntmps53; (go_wp2_with (first | ((with_reducible refine gate_dst (N := 2) rfl ?_); refine box_event ?hg (N := 2) ?hd (cs := #[.int .i64 a0_0, .slice A0_1 l0_1.length c0_1]) (t := 25) ?hr ?_; (case hd => rfl); (case hg => rfl); (case hr => exact zz19); intro gb101 hg w6 hbox hb; have n_ := zA4 (below_step zz2 hb) hbox (zz15 : w.heap.size ≤ gb101) (zz15 : w.heap.size ≤ gb101); clear HB; obtain ⟨HB, BK101, GW101, GE101⟩ := n_; clear hb hbox hg; have hcz7_0 := zC20 BK101; have hcz7_1 := zC21 BK101; have hfz7_0 := blk_frozen BK101.out 0; have hfz7_1 := blk_frozen BK101.out 1) | ((with_reducible refine gate_callee (f := 82) rfl ?_); refine goesL_ (some 6) rfl rfl Try.func82 (by kernel_rfl) rfl #[.agg #[.int .i64 a0_0, .slice A0_1 l0_1.length c0_1]] rfl zz3 ?_; (with_reducible refine (impl_GraphOk.calls a0_0 _ _ l0_1 true _ ?side1 ?side2 A3.out).mono ?_); (case side1 => exact zz5); (case side2 => exact HC0_1.out); rintro e w8 ⟨rfl, hb⟩; refine ⟨_, rfl, ?_⟩; have n_ := zA2 (blk_below (g := gb101) (o := .cells #[.int .i64 a0_0, .slice A0_1 l0_1.length c0_1] 25 (0, 0)) zz1 hb) (below_step zz0 hb); clear BK101 HB; obtain ⟨BK101, HB⟩ := n_; clear hb; have hcz9_0 := zC20 BK101; have hcz9_1 := zC21 BK101; have hfz9_0 := blk_frozen BK101.out 0; have hfz9_1 := blk_frozen BK101.out 1) | (go_at_call 62; (with_reducible refine (impl_within.calls a1 0 (wrap64 (a0_0 - 1)) t103 _ A5.out).mono ?_); rintro e w' ⟨rfl, ⟨nd, rfl⟩⟩))); go_ret; exact ⟨zz10, zz0⟩
def impl_BurnFrom.f (k : Nat) (a0_0 : Int) (l0_1 : List (S83)) (l1 : List Int) (a2 : Int) : Option (List Int × Bool) := (impl_DivisorOk.f k a0_0 l0_1 l1).bind fun t102 => (if t102 = true then ((impl_isVertex.f a0_0 l0_1 a2).bind fun t103 => (if t103 = true then ((impl_burn.f k a0_0 l0_1 l1 a2).bind fun t104 => (some (t104, true))) else (some (([] : List Int), false)))) else (some (([] : List Int), false)))
theorem impl_BurnFrom.mono : ∀ a0 a1 a2 a3 k, LeO (impl_BurnFrom.f k a0 a1 a2 a3) (impl_BurnFrom.f (k + 1) a0 a1 a2 a3) := by
 intro a0 a1 a2 a3 k; unfold impl_BurnFrom.f; repeat' first | (with_reducible apply impl_DivisorOk.mono) | (with_reducible apply impl_burn.mono) | (with_reducible exact LeO.refl _) | (with_reducible exact LeO.none _) | (with_reducible refine LeO.ite ?_ ?_) | (with_reducible refine LeO.bind ?_ (fun _ => ?_)) | apply impl_DivisorOk.mono | apply impl_burn.mono | exact LeO.none _ | refine LeO.ite ?_ ?_ | refine LeO.bind ?_ (fun _ => ?_)
set_option maxHeartbeats 8000000 in
set_option maxRecDepth 100000 in
theorem impl_BurnFrom.calls (k : Nat) (a0_0 : Int) (A0_1 : Option Addr) (c0_1 : Nat) (l0_1 : List (S83)) (A1 : Option Addr) (c1 : Nat) (l1 : List Int) (a2 : Int) (r1 : List Int) (r2 : Bool) (w : World) (hr0_1 : Kd.C k83 w A0_1 l0_1.length l0_1) (hc0_1 : l0_1.length ≤ c0_1) (hr1 : Kd.C (Kd.int .i64) w A1 l1.length l1) (hc1 : l1.length ≤ c1) (h : impl_BurnFrom.f k a0_0 l0_1 l1 a2 = some (r1, r2)) :
  Calls Try.prog 78 #[.agg #[.int .i64 a0_0, .slice A0_1 l0_1.length c0_1], .slice A1 l1.length c1, .int .i64 a2] w fun e w' => ∃ v0_ : Value, e = .returned (.tuple #[v0_, .bool r2]) ∧ Kd.R (Kd.int .i64) 3 w' w.heap.size (fun _ => True) v0_ r1 ∧ Below w.heap.size w w' := by
 have hu25 := Try.underlying25; have HR0_1 := Aside0.mk hr0_1; have HC0_1 := Aside0.mk hc0_1; clear hr0_1 hc0_1; have HR1 := Aside0.mk hr1; have HC1 := Aside0.mk hc1; clear hr1 hc1; have HB := Aside0.mk (Below.refl w.heap.size w); have H : ((impl_DivisorOk.f k a0_0 l0_1 l1).bind fun t102 => (if t102 = true then ((impl_isVertex.f a0_0 l0_1 a2).bind fun t103 => (if t103 = true then ((impl_burn.f k a0_0 l0_1 l1 a2).bind fun t104 => (some (t104, true))) else (some (([] : List Int), false)))) else (some (([] : List Int), false)))) = some (r1, r2) := h; clear h; replace H := Option.bind_eq_some_iff.mp H; obtain ⟨t102, A40, H⟩ := H; (try dsimp only at H); have A4 := Aside0.mk A40; clear A40; by_cases c5 : t102 = true; rotate_left
 ·replace c5 := Bool.eq_false_iff.mpr c5; subst c5; rw [if_neg (show ¬ (false = true) by decide)] at H; simp only [Option.some.injEq, Prod.mk.injEq] at H; obtain ⟨rfl, rfl⟩ := H; go_enter Try.func78, Try.ntmps78; (go_wp2_with (first | ((with_reducible refine gate_dst (N := 3) rfl ?_); refine box_event ?hg (N := 3) ?hd (cs := #[.int .i64 a0_0, .slice A0_1 l0_1.length c0_1]) (t := 25) ?hr ?_; (case hd => rfl); (case hg => rfl); (case hr => exact zz19); intro gb101 hg w21 hbox hb; have n_ := zA4 (below_step zz2 hb) hbox (zz15 : w.heap.size ≤ gb101) (zz15 : w.heap.size ≤ gb101); clear HB; obtain ⟨HB, BK101, GW101, GE101⟩ := n_; clear hb hbox hg; have hcz22_0 := zC20 BK101; have hcz22_1 := zC21 BK101; have hfz22_0 := blk_frozen BK101.out 0; have hfz22_1 := blk_frozen BK101.out 1) | ((with_reducible refine gate_callee (f := 83) rfl ?_); refine goesL_ (some 10) rfl rfl Try.func83 (by kernel_rfl) rfl #[.agg #[.int .i64 a0_0, .slice A0_1 l0_1.length c0_1], .slice A1 l1.length c1] rfl zz3 ?_; (with_reducible refine (impl_DivisorOk.calls k a0_0 _ _ l0_1 _ _ l1 false _ ?side1 ?side2 ?side3 ?side4 A4.out).mono ?_); (case side1 => exact zz5); (case side2 => exact HC0_1.out); (case side3 => exact zz20); (case side4 => exact HC1.out); rintro e w23 ⟨rfl, hb⟩; refine ⟨_, rfl, ?_⟩; have n_ := zA2 (blk_below (g := gb101) (o := .cells #[.int .i64 a0_0, .slice A0_1 l0_1.length c0_1] 25 (0, 0)) zz1 hb) (below_step zz0 hb); clear BK101 HB; obtain ⟨BK101, HB⟩ := n_; clear hb))); (go_ret2); exact ⟨_, zz10, zz41, zz0⟩
 subst c5; rw [if_pos rfl] at H; replace H := Option.bind_eq_some_iff.mp H; obtain ⟨t103, A60, H⟩ := H; (try dsimp only at H); have A6 := Aside0.mk A60; clear A60; by_cases c7 : t103 = true; rotate_left
 ·replace c7 := Bool.eq_false_iff.mpr c7; subst c7; rw [if_neg (show ¬ (false = true) by decide)] at H; simp only [Option.some.injEq, Prod.mk.injEq] at H; obtain ⟨rfl, rfl⟩ := H; go_enter Try.func78, Try.ntmps78; (go_wp2_with (first | ((with_reducible refine gate_dst (N := 3) rfl ?_); refine box_event ?hg (N := 3) ?hd (cs := #[.int .i64 a0_0, .slice A0_1 l0_1.length c0_1]) (t := 25) ?hr ?_; (case hd => rfl); (case hg => rfl); (case hr => exact zz19); intro gb101 hg w16 hbox hb; have n_ := zA4 (below_step zz2 hb) hbox (zz15 : w.heap.size ≤ gb101) (zz15 : w.heap.size ≤ gb101); clear HB; obtain ⟨HB, BK101, GW101, GE101⟩ := n_; clear hb hbox hg; have hcz17_0 := zC20 BK101; have hcz17_1 := zC21 BK101; have hfz17_0 := blk_frozen BK101.out 0; have hfz17_1 := blk_frozen BK101.out 1) | ((with_reducible refine gate_callee (f := 83) rfl ?_); refine goesL_ (some 10) rfl rfl Try.func83 (by kernel_rfl) rfl #[.agg #[.int .i64 a0_0, .slice A0_1 l0_1.length c0_1], .slice A1 l1.length c1] rfl zz3 ?_; (with_reducible refine (impl_DivisorOk.calls k a0_0 _ _ l0_1 _ _ l1 true _ ?side1 ?side2 ?side3 ?side4 A4.out).mono ?_); (case side1 => exact zz5); (case side2 => exact HC0_1.out); (case side3 => exact zz20); (case side4 => exact HC1.out); rintro e w18 ⟨rfl, hb⟩; refine ⟨_, rfl, ?_⟩; have n_ := zA2 (blk_below (g := gb101) (o := .cells #[.int .i64 a0_0, .slice A0_1 l0_1.length c0_1] 25 (0, 0)) zz1 hb) (below_step zz0 hb); clear BK101 HB; obtain ⟨BK101, HB⟩ := n_; clear hb; have hcz19_0 := zC20 BK101; have hcz19_1 := zC21 BK101; have hfz19_0 := blk_frozen BK101.out 0; have hfz19_1 := blk_frozen BK101.out 1) | (go_at_call 53; (with_reducible refine (impl_isVertex.calls a0_0 _ _ l0_1 a2 false _ ?side1 ?side2 A6.out).mono ?_); (case side1 => exact zz5); (case side2 => exact HC0_1.out); rintro e w20 ⟨rfl, hb⟩; have n_ := zA2 (blk_below (g := gb101) (o := .cells #[.int .i64 a0_0, .slice A0_1 l0_1.length c0_1] 25 (0, 0)) zz1 hb) (below_step zz0 hb); clear BK101 HB; obtain ⟨BK101, HB⟩ := n_; (try clear hb); (try clear hb2); (try clear hk); (try clear hi)))); (go_ret2); exact ⟨_, zz10, zz41, zz0⟩
 subst c7; rw [if_pos rfl] at H; replace H := Option.bind_eq_some_iff.mp H; obtain ⟨t104, A80, H⟩ := H; (try dsimp only at H); have A8 := Aside0.mk A80; clear A80; simp only [Option.some.injEq, Prod.mk.injEq] at H; obtain ⟨rfl, rfl⟩ := H; go_enter Try.func78, Try.ntmps78; (go_wp2_with (first | ((with_reducible refine gate_dst (N := 3) rfl ?_); refine box_event ?hg (N := 3) ?hd (cs := #[.int .i64 a0_0, .slice A0_1 l0_1.length c0_1]) (t := 25) ?hr ?_; (case hd => rfl); (case hg => rfl); (case hr => exact zz19); intro gb101 hg w9 hbox hb; have n_ := zA4 (below_step zz2 hb) hbox (zz15 : w.heap.size ≤ gb101) (zz15 : w.heap.size ≤ gb101); clear HB; obtain ⟨HB, BK101, GW101, GE101⟩ := n_; clear hb hbox hg; have hcz10_0 := zC20 BK101; have hcz10_1 := zC21 BK101; have hfz10_0 := blk_frozen BK101.out 0; have hfz10_1 := blk_frozen BK101.out 1) | ((with_reducible refine gate_callee (f := 83) rfl ?_); refine goesL_ (some 10) rfl rfl Try.func83 (by kernel_rfl) rfl #[.agg #[.int .i64 a0_0, .slice A0_1 l0_1.length c0_1], .slice A1 l1.length c1] rfl zz3 ?_; (with_reducible refine (impl_DivisorOk.calls k a0_0 _ _ l0_1 _ _ l1 true _ ?side1 ?side2 ?side3 ?side4 A4.out).mono ?_); (case side1 => exact zz5); (case side2 => exact HC0_1.out); (case side3 => exact zz20); (case side4 => exact HC1.out); rintro e w11 ⟨rfl, hb⟩; refine ⟨_, rfl, ?_⟩; have n_ := zA2 (blk_below (g := gb101) (o := .cells #[.int .i64 a0_0, .slice A0_1 l0_1.length c0_1] 25 (0, 0)) zz1 hb) (below_step zz0 hb); clear BK101 HB; obtain ⟨BK101, HB⟩ := n_; clear hb; have hcz12_0 := zC20 BK101; have hcz12_1 := zC21 BK101; have hfz12_0 := blk_frozen BK101.out 0; have hfz12_1 := blk_frozen BK101.out 1) | (go_at_call 53; (with_reducible refine (impl_isVertex.calls a0_0 _ _ l0_1 a2 true _ ?side1 ?side2 A6.out).mono ?_); (case side1 => exact zz5); (case side2 => exact HC0_1.out); rintro e w13 ⟨rfl, hb⟩; have n_ := zA2 (blk_below (g := gb101) (o := .cells #[.int .i64 a0_0, .slice A0_1 l0_1.length c0_1] 25 (0, 0)) zz1 hb) (below_step zz0 hb); clear BK101 HB; obtain ⟨BK101, HB⟩ := n_; (try clear hb); (try clear hb2); (try clear hk); (try clear hi); have hcz14_0 := zC20 BK101; have hcz14_1 := zC21 BK101; have hfz14_0 := blk_frozen BK101.out 0; have hfz14_1 := blk_frozen BK101.out 1) | ((with_reducible refine gate_callee (f := 102) rfl ?_); refine goesL_ (some 21) rfl rfl Try.func102 (by kernel_rfl) rfl #[.agg #[.int .i64 a0_0, .slice A0_1 l0_1.length c0_1], .slice A1 l1.length c1, .int .i64 a2] rfl zz3 ?_; (with_reducible refine (impl_burn.calls k a0_0 _ _ l0_1 _ _ l1 a2 t104 _ ?side1 ?side2 ?side3 ?side4 A8.out).mono ?_); (case side1 => exact zz5); (case side2 => exact HC0_1.out); (case side3 => exact zz20); (case side4 => exact HC1.out); rintro e w15 ⟨v105, rfl, ho0, hb⟩; refine ⟨_, rfl, ?_⟩; have n_ := zA3 (Kd.R_lower ho0 (below_size zz0)) (blk_below (g := gb101) (o := .cells #[.int .i64 a0_0, .slice A0_1 l0_1.length c0_1] 25 (0, 0)) zz1 hb) (below_step zz0 hb); clear BK101 HB; obtain ⟨HO106, BK101, HB⟩ := n_; clear ho0 hb))); (go_ret2); exact ⟨_, zz10, by (with_reducible repeat (first | apply Kd.R_alloc | apply Kd.R_drewN | apply Kd.R_drew)); exact HO106.out, zz0⟩
def impl_burnt.l0 : Nat → List Int → List Int → List (S83) → Int → Int → Option (List Int)
 | 0, _, _, _, _, _ => none
 | k + 1, x1, x5, x9, x10, x11 => if x11 < x10 then (if 0 ≤ x11 then (if x11 < (x9.length : Int) then ((slices_Index_int_int.f k x1 ((rd_T83 x9 x11).f0)).bind fun t104 => ((slices_Index_int_int.f k x1 ((rd_T83 x9 x11).f1)).bind fun t105 => (if t104 < t105 then (if x5.length < 17592186044416 then (impl_burnt.l0 k x1 (x5 ++ [0]) x9 x10 (wrap64 (x11 + 1))) else (none)) else (if x5.length < 17592186044416 then (impl_burnt.l0 k x1 (x5 ++ [1]) x9 x10 (wrap64 (x11 + 1))) else (none))))) else (none)) else (none)) else (some x5)
def impl_burnt.f (k : Nat) (a0_0 : Int) (l0_1 : List (S83)) (l1 : List Int) : Option (List Int) := impl_burnt.l0 k l1 ([] : List Int) l0_1 (l0_1.length : Int) 0
theorem impl_burnt.mono_l : ∀ k, (∀ y0 y1 y2 y3 y4, LeO (impl_burnt.l0 k y0 y1 y2 y3 y4) (impl_burnt.l0 (k + 1) y0 y1 y2 y3 y4))
 | 0 => fun _ _ _ _ _ r h => by simp [impl_burnt.l0] at h
 | k + 1 => by
  have ih0 := impl_burnt.mono_l k
  ·intro y0 y1 y2 y3 y4
   unfold impl_burnt.l0
   exact zm21
theorem impl_burnt.mono : ∀ a0 a1 a2 k, LeO (impl_burnt.f k a0 a1 a2) (impl_burnt.f (k + 1) a0 a1 a2) := by
 intro a0 a1 a2 k; have ih0 := impl_burnt.mono_l k; unfold impl_burnt.f; exact zm21
set_option maxHeartbeats 8000000 in
set_option maxRecDepth 100000 in
theorem impl_burnt.calls (k : Nat) (a0_0 : Int) (A0_1 : Option Addr) (c0_1 : Nat) (l0_1 : List (S83)) (A1 : Option Addr) (c1 : Nat) (l1 : List Int) (r : List Int) (w : World) (hr0_1 : Kd.C k83 w A0_1 l0_1.length l0_1) (hc0_1 : l0_1.length ≤ c0_1) (hr1 : Kd.C (Kd.int .i64) w A1 l1.length l1) (hc1 : l1.length ≤ c1) (h : impl_burnt.f k a0_0 l0_1 l1 = some r) :
  Calls Try.prog 79 #[.agg #[.int .i64 a0_0, .slice A0_1 l0_1.length c0_1], .slice A1 l1.length c1] w fun e w' => ∃ v0_ : Value, e = .returned (v0_) ∧ Kd.R (Kd.int .i64) 3 w' w.heap.size (fun _ => True) v0_ r ∧ Below w.heap.size w w' := by
 have hu25 := Try.underlying25; have hu83 := Try.underlying83; have HR0_1 := Aside0.mk hr0_1; have HC0_1 := Aside0.mk hc0_1; clear hr0_1 hc0_1; have HR1 := Aside0.mk hr1; have HC1 := Aside0.mk hc1; clear hr1 hc1; have HB := Aside0.mk (Below.refl w.heap.size w); have H : (impl_burnt.l0 k l1 ([] : List Int) l0_1 (l0_1.length : Int) 0) = some r := h; clear h; have H' := Aside0.mk H; clear H; go_enter Try.func79, Try.ntmps79; (go_wp2_with (first | ((with_reducible refine gate_dst (N := 2) rfl ?_); refine box_event ?hg (N := 2) ?hd (cs := #[.int .i64 a0_0, .slice A0_1 l0_1.length c0_1]) (t := 25) ?hr ?_; (case hd => rfl); (case hg => rfl); (case hr => exact zz19); intro gb101 hg w3 hbox hb; have n_ := zA4 (below_step zz2 hb) hbox (zz15 : w.heap.size ≤ gb101) (zz15 : w.heap.size ≤ gb101); clear HB; obtain ⟨HB, BK101, GW101, GE101⟩ := n_; clear hb hbox hg; have hcz4_0 := zC20 BK101; have hcz4_1 := zC21 BK101; have hfz4_0 := blk_frozen BK101.out 0; have hfz4_1 := blk_frozen BK101.out 1))); (repeat (go_quiet (first | ((with_reducible refine gate_dst (N := 2) rfl ?_); refine box_event ?hg (N := 2) ?hd (cs := #[.int .i64 a0_0, .slice A0_1 l0_1.length c0_1]) (t := 25) ?hr ?_; (case hd => rfl); (case hg => rfl); (case hr => exact zz19); intro gb101 hg w3 hbox hb; have n_ := zA4 (below_step zz2 hb) hbox (zz15 : w.heap.size ≤ gb101) (zz15 : w.heap.size ≤ gb101); clear HB; obtain ⟨HB, BK101, GW101, GE101⟩ := n_; clear hb hbox hg; have hcz4_0 := zC20 BK101; have hcz4_1 := zC21 BK101; have hfz4_0 := blk_frozen BK101.out 0; have hfz4_1 := blk_frozen BK101.out 1)); try go_wp2_with (first | ((with_reducible refine gate_dst (N := 2) rfl ?_); refine box_event ?hg (N := 2) ?hd (cs := #[.int .i64 a0_0, .slice A0_1 l0_1.length c0_1]) (t := 25) ?hr ?_; (case hd => rfl); (case hg => rfl); (case hr => exact zz19); intro gb101 hg w3 hbox hb; have n_ := zA4 (below_step zz2 hb) hbox (zz15 : w.heap.size ≤ gb101) (zz15 : w.heap.size ≤ gb101); clear HB; obtain ⟨HB, BK101, GW101, GE101⟩ := n_; clear hb hbox hg; have hcz4_0 := zC20 BK101; have hcz4_1 := zC21 BK101; have hfz4_0 := blk_frozen BK101.out 0; have hfz4_1 := blk_frozen BK101.out 1)))); (go_loopg [5, 11] k (fun kq v5 v11 w' => ∃ (x5_1 : List Int) (x11_1 : Int), v11 = .int .i64 x11_1 ∧ Aside0 (impl_burnt.l0 kq l1 x5_1 l0_1 (l0_1.length : Int) x11_1 = some r) ∧ Aside0 (kq ≤ k) ∧ Aside0 (Kd.R (Kd.int .i64) 3 w' w.heap.size (fun _ => True) v5 x5_1) ∧ Aside0 (w'.heap[gb101]? = some (.cells #[.int .i64 a0_0, (.slice A0_1 l0_1.length c0_1)] 25 (0, 0))) ∧ Aside0 (Below w.heap.size w w'))); case atStart => exact ⟨(([] : List Int)), (0), zz7, H', ⟨Nat.le_refl _⟩, ⟨zz41⟩, ⟨zz1⟩, ⟨zz0⟩⟩
 case round =>
  clear H'; (try clear c1); (try clear p2); (try clear hcz4_0); (try clear hcz4_1); (try clear hfz4_0); (try clear hfz4_1); obtain ⟨x5_1, x11_1, rfl, HA, HK1, HO_5, BK101, HB⟩ := hrel
  cases gk with
  | zero => exact absurd HA.out (by simp [impl_burnt.l0])
  | succ k1 =>
   have H := HA.out; clear HA; simp only [impl_burnt.l0] at H; by_cases c5 : x11_1 < (l0_1.length : Int); rotate_left
   ·rw [if_neg c5] at H; have c5b0 := decide_eq_false c5; clear c5; obtain rfl := Option.some.inj H; go_wp2; (repeat (go_quiet (fail); try go_wp2)); go_ret; exact ⟨_, zz10, by (with_reducible repeat (first | apply Kd.R_alloc | apply Kd.R_drewN | apply Kd.R_drew)); exact HO_5.out, zz0⟩
   rw [if_pos c5] at H; have c5b0 := decide_eq_true c5; clear c5; by_cases c6 : 0 ≤ x11_1; rotate_left
   ·rw [if_neg c6] at H; exact absurd H (by simp)
   rw [if_pos c6] at H; have c6b0 := decide_eq_true c6; clear c6; by_cases c7 : x11_1 < (l0_1.length : Int); rotate_left
   ·rw [if_neg c7] at H; exact absurd H (by simp)
   rw [if_pos c7] at H; have c7b0 := decide_eq_true c7; clear c7; replace H := Option.bind_eq_some_iff.mp H; obtain ⟨t104, A80, H⟩ := H; (try dsimp only at H); have A8 := Aside0.mk A80; clear A80; replace H := Option.bind_eq_some_iff.mp H; obtain ⟨t105, A90, H⟩ := H; (try dsimp only at H); have A9 := Aside0.mk A90; clear A90; by_cases c10 : t104 < t105
   ·rw [if_pos c10] at H; have c10b0 := decide_eq_true c10; clear c10; by_cases c11 : x5_1.length < 17592186044416; rotate_left
    ·rw [if_neg c11] at H; exact absurd H (by simp)
    rw [if_pos c11] at H; have LMc11 := Aside0.mk c11; clear c11; obtain ⟨y106, hy_⟩ : ∃ y_ : List Int, y_ = (x5_1 ++ [0]) := ⟨_, rfl⟩; (replace H : (impl_burnt.l0 k1 l1 y106 l0_1 (l0_1.length : Int) (wrap64 (x11_1 + 1))) = some r := zzY); have Ny106 := Aside0.mk hy_; clear hy_; have H' := Aside0.mk H; clear H; have p102 : 0 ≤ (x11_1 : Int) := of_decide_eq_true zz4; have q102 : x11_1 < (l0_1.length : Int) := of_decide_eq_true zz4; obtain ⟨ad102, e102, hx102_0, hx102_1⟩ := at_T83 HR0_1.out x11_1 p102 q102; cases e102; replace hx102_0 := (HB.out.cell (World.block_lt_of_cell? w _ hx102_0)).trans hx102_0; replace hx102_1 := (HB.out.cell (World.block_lt_of_cell? w _ hx102_1)).trans hx102_1; replace p102 := eq_true p102; replace q102 := eq_true q102; (go_wp2_with (first | ((with_reducible refine gate_dst (N := 7) rfl ?_); refine box_event ?hg (N := 7) ?hd (cs := #[.int .i64 0, .int .i64 0]) (t := 83) ?hr ?_; (case hd => rfl); (case hg => rfl); (case hr => exact zz19); intro gb103 hg w12 hbox hb; have n_ := zA8 (Kd.R_below zz111 hb) (blk_below (g := gb101) (o := .cells #[.int .i64 a0_0, .slice (some ad102) l0_1.length c0_1] 25 (0, 0)) zz1 hb) (below_step zz0 hb) hbox (zz36 : w.heap.size ≤ gb103) (zz36 : w.heap.size ≤ gb103) (zz46 : gb101 ≠ gb103) (zz47 : gb103 ≠ gb101); clear HO_5 BK101 HB; obtain ⟨HO_5, BK101, HB, BK103, GW103, GE103, NB101_103, NB103_101⟩ := n_; clear hb hbox hg; have hnb13 := NB103_101.out; have hnc13 := NB101_103.out; have hcz14_0 := zC20 BK103; have hcz14_1 := zC21 BK103; have hfz14_0 := blk_frozen BK103.out 0; have hfz14_1 := blk_frozen BK103.out 1) | (go_at_call 108; (with_reducible refine (slices_Index_int_int.calls k1 _ _ l1 ((rd_T83 l0_1 x11_1).f0) t104 _ ?side1 ?side2 A8.out).mono ?_); (case side1 => exact Kd.C_below HR1.out zz13); (case side2 => exact HC1.out); rintro e w' ⟨rfl, ⟨nd, rfl⟩⟩; (try first | exact ⟨rfl, _, World.drewN_drewN _ _ _⟩ | exact ⟨rfl, _, Eq.trans (World.drewN_drewN _ _ _) (congrArg (World.drewN _) (Nat.add_assoc _ _ _))⟩)) | (go_at_call 108; (with_reducible refine (slices_Index_int_int.calls k1 _ _ l1 ((rd_T83 l0_1 x11_1).f1) t105 _ ?side1 ?side2 A9.out).mono ?_); (case side1 => exact Kd.C_below HR1.out zz13); (case side2 => exact HC1.out); rintro e w' ⟨rfl, ⟨nd, rfl⟩⟩; (try first | exact ⟨rfl, _, World.drewN_drewN _ _ _⟩ | exact ⟨rfl, _, Eq.trans (World.drewN_drewN _ _ _) (congrArg (World.drewN _) (Nat.add_assoc _ _ _))⟩)) | ((with_reducible refine gate_builtin (b := .append) (xs := #[.tmp 24, .tmp 25]) rfl ?_); at_builtin; refine Kd.R_append (Kd.int .i64) (w0 := w) w.heap.size rfl (.tmp 24) (.tmp 25) 28 3 (.int .i64 0) 8 rfl Try.underlying28 info3 rfl (by decide) (by omega) u5 x5_1 0 [.int .i64 0] (fun _ => True) (fun _ => False) rfl (by first | (go_simp; done) | (go_simp; rfl)) ?aP (fun _ hk => hk.elim) ?aF ?aO ?aB ?aS ?aL ?_; (case aP => exact rfl); (case aB => exact zz13); (case aF => exact (fun _ _ => trivial)); (case aO => exact zz50); (case aS => exact (below_size zz13)); (case aL => have := LMc11.out; omega); intro v107 w15 ho hb hg hat; rw [← Ny106.out] at ho; have n_ := zA4 (blk_grown (g := gb101) (o := .cells #[.int .i64 a0_0, .slice (some ad102) l0_1.length c0_1] 25 (0, 0)) zz33 hg (Kd.R_ne HO_5.out BK101.out (by decide))) (blk_grown (g := gb103) (o := .cells #[.int .i64 ((rd_T83 l0_1 x11_1).f0), .int .i64 ((rd_T83 l0_1 x11_1).f1)] 83 (0, 0)) zz39 hg (Kd.R_ne HO_5.out BK103.out (by decide))) hb ho; clear BK101 BK103 HB HO_5; obtain ⟨BK101, BK103, HB, HO108⟩ := n_; clear ho hb hg hat))); (repeat (go_quiet (first | ((with_reducible refine gate_dst (N := 7) rfl ?_); refine box_event ?hg (N := 7) ?hd (cs := #[.int .i64 0, .int .i64 0]) (t := 83) ?hr ?_; (case hd => rfl); (case hg => rfl); (case hr => exact zz19); intro gb103 hg w12 hbox hb; have n_ := zA8 (Kd.R_below zz111 hb) (blk_below (g := gb101) (o := .cells #[.int .i64 a0_0, .slice (some ad102) l0_1.length c0_1] 25 (0, 0)) zz1 hb) (below_step zz0 hb) hbox (zz36 : w.heap.size ≤ gb103) (zz36 : w.heap.size ≤ gb103) (zz46 : gb101 ≠ gb103) (zz47 : gb103 ≠ gb101); clear HO_5 BK101 HB; obtain ⟨HO_5, BK101, HB, BK103, GW103, GE103, NB101_103, NB103_101⟩ := n_; clear hb hbox hg; have hnb13 := NB103_101.out; have hnc13 := NB101_103.out; have hcz14_0 := zC20 BK103; have hcz14_1 := zC21 BK103; have hfz14_0 := blk_frozen BK103.out 0; have hfz14_1 := blk_frozen BK103.out 1) | (go_at_call 108; (with_reducible refine (slices_Index_int_int.calls k1 _ _ l1 ((rd_T83 l0_1 x11_1).f0) t104 _ ?side1 ?side2 A8.out).mono ?_); (case side1 => exact Kd.C_below HR1.out zz13); (case side2 => exact HC1.out); rintro e w' ⟨rfl, ⟨nd, rfl⟩⟩; (try first | exact ⟨rfl, _, World.drewN_drewN _ _ _⟩ | exact ⟨rfl, _, Eq.trans (World.drewN_drewN _ _ _) (congrArg (World.drewN _) (Nat.add_assoc _ _ _))⟩)) | (go_at_call 108; (with_reducible refine (slices_Index_int_int.calls k1 _ _ l1 ((rd_T83 l0_1 x11_1).f1) t105 _ ?side1 ?side2 A9.out).mono ?_); (case side1 => exact Kd.C_below HR1.out zz13); (case side2 => exact HC1.out); rintro e w' ⟨rfl, ⟨nd, rfl⟩⟩; (try first | exact ⟨rfl, _, World.drewN_drewN _ _ _⟩ | exact ⟨rfl, _, Eq.trans (World.drewN_drewN _ _ _) (congrArg (World.drewN _) (Nat.add_assoc _ _ _))⟩)) | ((with_reducible refine gate_builtin (b := .append) (xs := #[.tmp 24, .tmp 25]) rfl ?_); at_builtin; refine Kd.R_append (Kd.int .i64) (w0 := w) w.heap.size rfl (.tmp 24) (.tmp 25) 28 3 (.int .i64 0) 8 rfl Try.underlying28 info3 rfl (by decide) (by omega) u5 x5_1 0 [.int .i64 0] (fun _ => True) (fun _ => False) rfl (by first | (go_simp; done) | (go_simp; rfl)) ?aP (fun _ hk => hk.elim) ?aF ?aO ?aB ?aS ?aL ?_; (case aP => exact rfl); (case aB => exact zz13); (case aF => exact (fun _ _ => trivial)); (case aO => exact zz50); (case aS => exact (below_size zz13)); (case aL => have := LMc11.out; omega); intro v107 w15 ho hb hg hat; rw [← Ny106.out] at ho; have n_ := zA4 (blk_grown (g := gb101) (o := .cells #[.int .i64 a0_0, .slice (some ad102) l0_1.length c0_1] 25 (0, 0)) zz33 hg (Kd.R_ne HO_5.out BK101.out (by decide))) (blk_grown (g := gb103) (o := .cells #[.int .i64 ((rd_T83 l0_1 x11_1).f0), .int .i64 ((rd_T83 l0_1 x11_1).f1)] 83 (0, 0)) zz39 hg (Kd.R_ne HO_5.out BK103.out (by decide))) hb ho; clear BK101 BK103 HB HO_5; obtain ⟨BK101, BK103, HB, HO108⟩ := n_; clear ho hb hg hat)); try go_wp2_with (first | ((with_reducible refine gate_dst (N := 7) rfl ?_); refine box_event ?hg (N := 7) ?hd (cs := #[.int .i64 0, .int .i64 0]) (t := 83) ?hr ?_; (case hd => rfl); (case hg => rfl); (case hr => exact zz19); intro gb103 hg w12 hbox hb; have n_ := zA8 (Kd.R_below zz111 hb) (blk_below (g := gb101) (o := .cells #[.int .i64 a0_0, .slice (some ad102) l0_1.length c0_1] 25 (0, 0)) zz1 hb) (below_step zz0 hb) hbox (zz36 : w.heap.size ≤ gb103) (zz36 : w.heap.size ≤ gb103) (zz46 : gb101 ≠ gb103) (zz47 : gb103 ≠ gb101); clear HO_5 BK101 HB; obtain ⟨HO_5, BK101, HB, BK103, GW103, GE103, NB101_103, NB103_101⟩ := n_; clear hb hbox hg; have hnb13 := NB103_101.out; have hnc13 := NB101_103.out; have hcz14_0 := zC20 BK103; have hcz14_1 := zC21 BK103; have hfz14_0 := blk_frozen BK103.out 0; have hfz14_1 := blk_frozen BK103.out 1) | (go_at_call 108; (with_reducible refine (slices_Index_int_int.calls k1 _ _ l1 ((rd_T83 l0_1 x11_1).f0) t104 _ ?side1 ?side2 A8.out).mono ?_); (case side1 => exact Kd.C_below HR1.out zz13); (case side2 => exact HC1.out); rintro e w' ⟨rfl, ⟨nd, rfl⟩⟩; (try first | exact ⟨rfl, _, World.drewN_drewN _ _ _⟩ | exact ⟨rfl, _, Eq.trans (World.drewN_drewN _ _ _) (congrArg (World.drewN _) (Nat.add_assoc _ _ _))⟩)) | (go_at_call 108; (with_reducible refine (slices_Index_int_int.calls k1 _ _ l1 ((rd_T83 l0_1 x11_1).f1) t105 _ ?side1 ?side2 A9.out).mono ?_); (case side1 => exact Kd.C_below HR1.out zz13); (case side2 => exact HC1.out); rintro e w' ⟨rfl, ⟨nd, rfl⟩⟩; (try first | exact ⟨rfl, _, World.drewN_drewN _ _ _⟩ | exact ⟨rfl, _, Eq.trans (World.drewN_drewN _ _ _) (congrArg (World.drewN _) (Nat.add_assoc _ _ _))⟩)) | ((with_reducible refine gate_builtin (b := .append) (xs := #[.tmp 24, .tmp 25]) rfl ?_); at_builtin; refine Kd.R_append (Kd.int .i64) (w0 := w) w.heap.size rfl (.tmp 24) (.tmp 25) 28 3 (.int .i64 0) 8 rfl Try.underlying28 info3 rfl (by decide) (by omega) u5 x5_1 0 [.int .i64 0] (fun _ => True) (fun _ => False) rfl (by first | (go_simp; done) | (go_simp; rfl)) ?aP (fun _ hk => hk.elim) ?aF ?aO ?aB ?aS ?aL ?_; (case aP => exact rfl); (case aB => exact zz13); (case aF => exact (fun _ _ => trivial)); (case aO => exact zz50); (case aS => exact (below_size zz13)); (case aL => have := LMc11.out; omega); intro v107 w15 ho hb hg hat; rw [← Ny106.out] at ho; have n_ := zA4 (blk_grown (g := gb101) (o := .cells #[.int .i64 a0_0, .slice (some ad102) l0_1.length c0_1] 25 (0, 0)) zz33 hg (Kd.R_ne HO_5.out BK101.out (by decide))) (blk_grown (g := gb103) (o := .cells #[.int .i64 ((rd_T83 l0_1 x11_1).f0), .int .i64 ((rd_T83 l0_1 x11_1).f1)] 83 (0, 0)) zz39 hg (Kd.R_ne HO_5.out BK103.out (by decide))) hb ho; clear BK101 BK103 HB HO_5; obtain ⟨BK101, BK103, HB, HO108⟩ := n_; clear ho hb hg hat)))); go_roundg k1; (case measure => have := HK1.out; omega); case rel => exact ⟨(y106), (wrap64 (x11_1 + 1)), zz7, H', ⟨zz98⟩, ⟨by (with_reducible repeat (first | apply Kd.R_alloc | apply Kd.R_drewN | apply Kd.R_drew)); exact HO108.out⟩, ⟨zz1⟩, ⟨zz13⟩⟩
   rw [if_neg c10] at H; have c10b0 := decide_eq_false c10; clear c10; by_cases c16 : x5_1.length < 17592186044416; rotate_left
   ·rw [if_neg c16] at H; exact absurd H (by simp)
   rw [if_pos c16] at H; have LMc16 := Aside0.mk c16; clear c16; obtain ⟨y109, hy_⟩ : ∃ y_ : List Int, y_ = (x5_1 ++ [1]) := ⟨_, rfl⟩; (replace H : (impl_burnt.l0 k1 l1 y109 l0_1 (l0_1.length : Int) (wrap64 (x11_1 + 1))) = some r := zzY); have Ny109 := Aside0.mk hy_; clear hy_; have H' := Aside0.mk H; clear H; have p102 : 0 ≤ (x11_1 : Int) := of_decide_eq_true zz4; have q102 : x11_1 < (l0_1.length : Int) := of_decide_eq_true zz4; obtain ⟨ad102, e102, hx102_0, hx102_1⟩ := at_T83 HR0_1.out x11_1 p102 q102; cases e102; replace hx102_0 := (HB.out.cell (World.block_lt_of_cell? w _ hx102_0)).trans hx102_0; replace hx102_1 := (HB.out.cell (World.block_lt_of_cell? w _ hx102_1)).trans hx102_1; replace p102 := eq_true p102; replace q102 := eq_true q102; (go_wp2_with (first | ((with_reducible refine gate_dst (N := 7) rfl ?_); refine box_event ?hg (N := 7) ?hd (cs := #[.int .i64 0, .int .i64 0]) (t := 83) ?hr ?_; (case hd => rfl); (case hg => rfl); (case hr => exact zz19); intro gb103 hg w17 hbox hb; have n_ := zA8 (Kd.R_below zz111 hb) (blk_below (g := gb101) (o := .cells #[.int .i64 a0_0, .slice (some ad102) l0_1.length c0_1] 25 (0, 0)) zz1 hb) (below_step zz0 hb) hbox (zz36 : w.heap.size ≤ gb103) (zz36 : w.heap.size ≤ gb103) (zz46 : gb101 ≠ gb103) (zz47 : gb103 ≠ gb101); clear HO_5 BK101 HB; obtain ⟨HO_5, BK101, HB, BK103, GW103, GE103, NB101_103, NB103_101⟩ := n_; clear hb hbox hg; have hnb18 := NB103_101.out; have hnc18 := NB101_103.out; have hcz19_0 := zC20 BK103; have hcz19_1 := zC21 BK103; have hfz19_0 := blk_frozen BK103.out 0; have hfz19_1 := blk_frozen BK103.out 1) | (go_at_call 108; (with_reducible refine (slices_Index_int_int.calls k1 _ _ l1 ((rd_T83 l0_1 x11_1).f0) t104 _ ?side1 ?side2 A8.out).mono ?_); (case side1 => exact Kd.C_below HR1.out zz13); (case side2 => exact HC1.out); rintro e w' ⟨rfl, ⟨nd, rfl⟩⟩; (try first | exact ⟨rfl, _, World.drewN_drewN _ _ _⟩ | exact ⟨rfl, _, Eq.trans (World.drewN_drewN _ _ _) (congrArg (World.drewN _) (Nat.add_assoc _ _ _))⟩)) | (go_at_call 108; (with_reducible refine (slices_Index_int_int.calls k1 _ _ l1 ((rd_T83 l0_1 x11_1).f1) t105 _ ?side1 ?side2 A9.out).mono ?_); (case side1 => exact Kd.C_below HR1.out zz13); (case side2 => exact HC1.out); rintro e w' ⟨rfl, ⟨nd, rfl⟩⟩; (try first | exact ⟨rfl, _, World.drewN_drewN _ _ _⟩ | exact ⟨rfl, _, Eq.trans (World.drewN_drewN _ _ _) (congrArg (World.drewN _) (Nat.add_assoc _ _ _))⟩)) | ((with_reducible refine gate_builtin (b := .append) (xs := #[.tmp 27, .tmp 28]) rfl ?_); at_builtin; refine Kd.R_append (Kd.int .i64) (w0 := w) w.heap.size rfl (.tmp 27) (.tmp 28) 28 3 (.int .i64 0) 8 rfl Try.underlying28 info3 rfl (by decide) (by omega) u5 x5_1 1 [.int .i64 1] (fun _ => True) (fun _ => False) rfl (by first | (go_simp; done) | (go_simp; rfl)) ?aP (fun _ hk => hk.elim) ?aF ?aO ?aB ?aS ?aL ?_; (case aP => exact rfl); (case aB => exact zz13); (case aF => exact (fun _ _ => trivial)); (case aO => exact zz50); (case aS => exact (below_size zz13)); (case aL => have := LMc16.out; omega); intro v110 w20 ho hb hg hat; rw [← Ny109.out] at ho; have n_ := zA4 (blk_grown (g := gb101) (o := .cells #[.int .i64 a0_0, .slice (some ad102) l0_1.length c0_1] 25 (0, 0)) zz33 hg (Kd.R_ne HO_5.out BK101.out (by decide))) (blk_grown (g := gb103) (o := .cells #[.int .i64 ((rd_T83 l0_1 x11_1).f0), .int .i64 ((rd_T83 l0_1 x11_1).f1)] 83 (0, 0)) zz39 hg (Kd.R_ne HO_5.out BK103.out (by decide))) hb ho; clear BK101 BK103 HB HO_5; obtain ⟨BK101, BK103, HB, HO111⟩ := n_; clear ho hb hg hat))); (repeat (go_quiet (first | ((with_reducible refine gate_dst (N := 7) rfl ?_); refine box_event ?hg (N := 7) ?hd (cs := #[.int .i64 0, .int .i64 0]) (t := 83) ?hr ?_; (case hd => rfl); (case hg => rfl); (case hr => exact zz19); intro gb103 hg w17 hbox hb; have n_ := zA8 (Kd.R_below zz111 hb) (blk_below (g := gb101) (o := .cells #[.int .i64 a0_0, .slice (some ad102) l0_1.length c0_1] 25 (0, 0)) zz1 hb) (below_step zz0 hb) hbox (zz36 : w.heap.size ≤ gb103) (zz36 : w.heap.size ≤ gb103) (zz46 : gb101 ≠ gb103) (zz47 : gb103 ≠ gb101); clear HO_5 BK101 HB; obtain ⟨HO_5, BK101, HB, BK103, GW103, GE103, NB101_103, NB103_101⟩ := n_; clear hb hbox hg; have hnb18 := NB103_101.out; have hnc18 := NB101_103.out; have hcz19_0 := zC20 BK103; have hcz19_1 := zC21 BK103; have hfz19_0 := blk_frozen BK103.out 0; have hfz19_1 := blk_frozen BK103.out 1) | (go_at_call 108; (with_reducible refine (slices_Index_int_int.calls k1 _ _ l1 ((rd_T83 l0_1 x11_1).f0) t104 _ ?side1 ?side2 A8.out).mono ?_); (case side1 => exact Kd.C_below HR1.out zz13); (case side2 => exact HC1.out); rintro e w' ⟨rfl, ⟨nd, rfl⟩⟩; (try first | exact ⟨rfl, _, World.drewN_drewN _ _ _⟩ | exact ⟨rfl, _, Eq.trans (World.drewN_drewN _ _ _) (congrArg (World.drewN _) (Nat.add_assoc _ _ _))⟩)) | (go_at_call 108; (with_reducible refine (slices_Index_int_int.calls k1 _ _ l1 ((rd_T83 l0_1 x11_1).f1) t105 _ ?side1 ?side2 A9.out).mono ?_); (case side1 => exact Kd.C_below HR1.out zz13); (case side2 => exact HC1.out); rintro e w' ⟨rfl, ⟨nd, rfl⟩⟩; (try first | exact ⟨rfl, _, World.drewN_drewN _ _ _⟩ | exact ⟨rfl, _, Eq.trans (World.drewN_drewN _ _ _) (congrArg (World.drewN _) (Nat.add_assoc _ _ _))⟩)) | ((with_reducible refine gate_builtin (b := .append) (xs := #[.tmp 27, .tmp 28]) rfl ?_); at_builtin; refine Kd.R_append (Kd.int .i64) (w0 := w) w.heap.size rfl (.tmp 27) (.tmp 28) 28 3 (.int .i64 0) 8 rfl Try.underlying28 info3 rfl (by decide) (by omega) u5 x5_1 1 [.int .i64 1] (fun _ => True) (fun _ => False) rfl (by first | (go_simp; done) | (go_simp; rfl)) ?aP (fun _ hk => hk.elim) ?aF ?aO ?aB ?aS ?aL ?_; (case aP => exact rfl); (case aB => exact zz13); (case aF => exact (fun _ _ => trivial)); (case aO => exact zz50); (case aS => exact (below_size zz13)); (case aL => have := LMc16.out; omega); intro v110 w20 ho hb hg hat; rw [← Ny109.out] at ho; have n_ := zA4 (blk_grown (g := gb101) (o := .cells #[.int .i64 a0_0, .slice (some ad102) l0_1.length c0_1] 25 (0, 0)) zz33 hg (Kd.R_ne HO_5.out BK101.out (by decide))) (blk_grown (g := gb103) (o := .cells #[.int .i64 ((rd_T83 l0_1 x11_1).f0), .int .i64 ((rd_T83 l0_1 x11_1).f1)] 83 (0, 0)) zz39 hg (Kd.R_ne HO_5.out BK103.out (by decide))) hb ho; clear BK101 BK103 HB HO_5; obtain ⟨BK101, BK103, HB, HO111⟩ := n_; clear ho hb hg hat)); try go_wp2_with (first | ((with_reducible refine gate_dst (N := 7) rfl ?_); refine box_event ?hg (N := 7) ?hd (cs := #[.int .i64 0, .int .i64 0]) (t := 83) ?hr ?_; (case hd => rfl); (case hg => rfl); (case hr => exact zz19); intro gb103 hg w17 hbox hb; have n_ := zA8 (Kd.R_below zz111 hb) (blk_below (g := gb101) (o := .cells #[.int .i64 a0_0, .slice (some ad102) l0_1.length c0_1] 25 (0, 0)) zz1 hb) (below_step zz0 hb) hbox (zz36 : w.heap.size ≤ gb103) (zz36 : w.heap.size ≤ gb103) (zz46 : gb101 ≠ gb103) (zz47 : gb103 ≠ gb101); clear HO_5 BK101 HB; obtain ⟨HO_5, BK101, HB, BK103, GW103, GE103, NB101_103, NB103_101⟩ := n_; clear hb hbox hg; have hnb18 := NB103_101.out; have hnc18 := NB101_103.out; have hcz19_0 := zC20 BK103; have hcz19_1 := zC21 BK103; have hfz19_0 := blk_frozen BK103.out 0; have hfz19_1 := blk_frozen BK103.out 1) | (go_at_call 108; (with_reducible refine (slices_Index_int_int.calls k1 _ _ l1 ((rd_T83 l0_1 x11_1).f0) t104 _ ?side1 ?side2 A8.out).mono ?_); (case side1 => exact Kd.C_below HR1.out zz13); (case side2 => exact HC1.out); rintro e w' ⟨rfl, ⟨nd, rfl⟩⟩; (try first | exact ⟨rfl, _, World.drewN_drewN _ _ _⟩ | exact ⟨rfl, _, Eq.trans (World.drewN_drewN _ _ _) (congrArg (World.drewN _) (Nat.add_assoc _ _ _))⟩)) | (go_at_call 108; (with_reducible refine (slices_Index_int_int.calls k1 _ _ l1 ((rd_T83 l0_1 x11_1).f1) t105 _ ?side1 ?side2 A9.out).mono ?_); (case side1 => exact Kd.C_below HR1.out zz13); (case side2 => exact HC1.out); rintro e w' ⟨rfl, ⟨nd, rfl⟩⟩; (try first | exact ⟨rfl, _, World.drewN_drewN _ _ _⟩ | exact ⟨rfl, _, Eq.trans (World.drewN_drewN _ _ _) (congrArg (World.drewN _) (Nat.add_assoc _ _ _))⟩)) | ((with_reducible refine gate_builtin (b := .append) (xs := #[.tmp 27, .tmp 28]) rfl ?_); at_builtin; refine Kd.R_append (Kd.int .i64) (w0 := w) w.heap.size rfl (.tmp 27) (.tmp 28) 28 3 (.int .i64 0) 8 rfl Try.underlying28 info3 rfl (by decide) (by omega) u5 x5_1 1 [.int .i64 1] (fun _ => True) (fun _ => False) rfl (by first | (go_simp; done) | (go_simp; rfl)) ?aP (fun _ hk => hk.elim) ?aF ?aO ?aB ?aS ?aL ?_; (case aP => exact rfl); (case aB => exact zz13); (case aF => exact (fun _ _ => trivial)); (case aO => exact zz50); (case aS => exact (below_size zz13)); (case aL => have := LMc16.out; omega); intro v110 w20 ho hb hg hat; rw [← Ny109.out] at ho; have n_ := zA4 (blk_grown (g := gb101) (o := .cells #[.int .i64 a0_0, .slice (some ad102) l0_1.length c0_1] 25 (0, 0)) zz33 hg (Kd.R_ne HO_5.out BK101.out (by decide))) (blk_grown (g := gb103) (o := .cells #[.int .i64 ((rd_T83 l0_1 x11_1).f0), .int .i64 ((rd_T83 l0_1 x11_1).f1)] 83 (0, 0)) zz39 hg (Kd.R_ne HO_5.out BK103.out (by decide))) hb ho; clear BK101 BK103 HB HO_5; obtain ⟨BK101, BK103, HB, HO111⟩ := n_; clear ho hb hg hat)))); go_roundg k1; (case measure => have := HK1.out; omega); case rel => exact ⟨(y109), (wrap64 (x11_1 + 1)), zz7, H', ⟨zz98⟩, ⟨by (with_reducible repeat (first | apply Kd.R_alloc | apply Kd.R_drewN | apply Kd.R_drew)); exact HO111.out⟩, ⟨zz1⟩, ⟨zz13⟩⟩
def impl_OrientByBurning.f (k : Nat) (a0_0 : Int) (l0_1 : List (S83)) (l1 : List Int) (a2 : Int) : Option (List Int × Bool) := (impl_BurnFrom.f k a0_0 l0_1 l1 a2).bind fun bt102 => (if bt102.2 = true then (if (bt102.1.length : Int) < a0_0 then (some (([] : List Int), false)) else ((impl_burnt.f k a0_0 l0_1 bt102.1).bind fun t106 => (some (t106, true)))) else (some (([] : List Int), false)))
theorem impl_OrientByBurning.mono : ∀ a0 a1 a2 a3 k, LeO (impl_OrientByBurning.f k a0 a1 a2 a3) (impl_OrientByBurning.f (k + 1) a0 a1 a2 a3) := by
 intro a0 a1 a2 a3 k; unfold impl_OrientByBurning.f; repeat' first | (with_reducible apply impl_BurnFrom.mono) | (with_reducible apply impl_burnt.mono) | (with_reducible exact LeO.refl _) | (with_reducible exact LeO.none _) | (with_reducible refine LeO.ite ?_ ?_) | (with_reducible refine LeO.bind ?_ (fun _ => ?_)) | apply impl_BurnFrom.mono | apply impl_burnt.mono | exact LeO.none _ | refine LeO.ite ?_ ?_ | refine LeO.bind ?_ (fun _ => ?_)
set_option maxHeartbeats 8000000 in
set_option maxRecDepth 100000 in
theorem impl_OrientByBurning.calls (k : Nat) (a0_0 : Int) (A0_1 : Option Addr) (c0_1 : Nat) (l0_1 : List (S83)) (A1 : Option Addr) (c1 : Nat) (l1 : List Int) (a2 : Int) (r1 : List Int) (r2 : Bool) (w : World) (hr0_1 : Kd.C k83 w A0_1 l0_1.length l0_1) (hc0_1 : l0_1.length ≤ c0_1) (hr1 : Kd.C (Kd.int .i64) w A1 l1.length l1) (hc1 : l1.length ≤ c1) (h : impl_OrientByBurning.f k a0_0 l0_1 l1 a2 = some (r1, r2)) :
  Calls Try.prog 35 #[.agg #[.int .i64 a0_0, .slice A0_1 l0_1.length c0_1], .slice A1 l1.length c1, .int .i64 a2] w fun e w' => ∃ v0_ : Value, e = .returned (.tuple #[v0_, .bool r2]) ∧ Kd.R (Kd.int .i64) 3 w' w.heap.size (fun _ => True) v0_ r1 ∧ Below w.heap.size w w' := by
 have hu25 := Try.underlying25; have HR0_1 := Aside0.mk hr0_1; have HC0_1 := Aside0.mk hc0_1; clear hr0_1 hc0_1; have HR1 := Aside0.mk hr1; have HC1 := Aside0.mk hc1; clear hr1 hc1; have HB := Aside0.mk (Below.refl w.heap.size w); have H : ((impl_BurnFrom.f k a0_0 l0_1 l1 a2).bind fun bt102 => (if bt102.2 = true then (if (bt102.1.length : Int) < a0_0 then (some (([] : List Int), false)) else ((impl_burnt.f k a0_0 l0_1 bt102.1).bind fun t106 => (some (t106, true)))) else (some (([] : List Int), false)))) = some (r1, r2) := h; clear h; replace H := Option.bind_eq_some_iff.mp H; obtain ⟨⟨t102, t105⟩, A40, H⟩ := H; dsimp only at H; have A4 := Aside0.mk A40; clear A40; by_cases c5 : t105 = true; rotate_left
 ·replace c5 := Bool.eq_false_iff.mpr c5; subst c5; rw [if_neg (show ¬ (false = true) by decide)] at H; simp only [Option.some.injEq, Prod.mk.injEq] at H; obtain ⟨rfl, rfl⟩ := H; go_enter Try.func35, Try.ntmps35; (go_wp2_with (first | ((with_reducible refine gate_dst (N := 3) rfl ?_); (try (refine gate_guard (by rfl) ?_; dsimp only)); refine box_event ?hg (N := 3) ?hd (cs := #[.int .i64 a0_0, .slice A0_1 l0_1.length c0_1]) (t := 25) ?hr ?_; (case hd => rfl); (case hg => rfl); (case hr => exact zz19); intro gb101 hg w19 hbox hb; have n_ := zA4 (below_step zz2 hb) hbox (zz15 : w.heap.size ≤ gb101) (zz15 : w.heap.size ≤ gb101); clear HB; obtain ⟨HB, BK101, GW101, GE101⟩ := n_; clear hb hbox hg; have hcz20_0 := zC20 BK101; have hcz20_1 := zC21 BK101; have hfz20_0 := blk_frozen BK101.out 0; have hfz20_1 := blk_frozen BK101.out 1) | ((with_reducible refine gate_callee (f := 78) rfl ?_); refine goesL_ (some 14) rfl rfl Try.func78 (by kernel_rfl) rfl #[.agg #[.int .i64 a0_0, .slice A0_1 l0_1.length c0_1], .slice A1 l1.length c1, .int .i64 a2] rfl zz3 ?_; (with_reducible refine (impl_BurnFrom.calls k a0_0 _ _ l0_1 _ _ l1 a2 t102 false _ ?side1 ?side2 ?side3 ?side4 A4.out).mono ?_); (case side1 => exact zz5); (case side2 => exact HC0_1.out); (case side3 => exact zz20); (case side4 => exact HC1.out); rintro e w21 ⟨v103, rfl, ho0, hb⟩; refine ⟨_, rfl, ?_⟩; have n_ := zA3 (Kd.R_lower ho0 (below_size zz0)) (blk_below (g := gb101) (o := .cells #[.int .i64 a0_0, .slice A0_1 l0_1.length c0_1] 25 (0, 0)) zz1 hb) (below_step zz0 hb); clear BK101 HB; obtain ⟨HO104, BK101, HB⟩ := n_; clear ho0 hb))); (go_ret2); exact ⟨_, zz10, zz41, zz0⟩
 subst c5; rw [if_pos rfl] at H; by_cases c6 : (t102.length : Int) < a0_0
 ·rw [if_pos c6] at H; have c6b0 := decide_eq_true c6; clear c6; simp only [Option.some.injEq, Prod.mk.injEq] at H; obtain ⟨rfl, rfl⟩ := H; go_enter Try.func35, Try.ntmps35; (go_wp2_with (first | ((with_reducible refine gate_dst (N := 3) rfl ?_); (try (refine gate_guard (by rfl) ?_; dsimp only)); refine box_event ?hg (N := 3) ?hd (cs := #[.int .i64 a0_0, .slice A0_1 l0_1.length c0_1]) (t := 25) ?hr ?_; (case hd => rfl); (case hg => rfl); (case hr => exact zz19); intro gb101 hg w7 hbox hb; have n_ := zA4 (below_step zz2 hb) hbox (zz15 : w.heap.size ≤ gb101) (zz15 : w.heap.size ≤ gb101); clear HB; obtain ⟨HB, BK101, GW101, GE101⟩ := n_; clear hb hbox hg; have hcz8_0 := zC20 BK101; have hcz8_1 := zC21 BK101; have hfz8_0 := blk_frozen BK101.out 0; have hfz8_1 := blk_frozen BK101.out 1) | ((with_reducible refine gate_callee (f := 78) rfl ?_); refine goesL_ (some 14) rfl rfl Try.func78 (by kernel_rfl) rfl #[.agg #[.int .i64 a0_0, .slice A0_1 l0_1.length c0_1], .slice A1 l1.length c1, .int .i64 a2] rfl zz3 ?_; (with_reducible refine (impl_BurnFrom.calls k a0_0 _ _ l0_1 _ _ l1 a2 t102 true _ ?side1 ?side2 ?side3 ?side4 A4.out).mono ?_); (case side1 => exact zz5); (case side2 => exact HC0_1.out); (case side3 => exact zz20); (case side4 => exact HC1.out); rintro e w9 ⟨v103, rfl, ho0, hb⟩; refine ⟨_, rfl, ?_⟩; have n_ := zA3 (Kd.R_lower ho0 (below_size zz0)) (blk_below (g := gb101) (o := .cells #[.int .i64 a0_0, .slice A0_1 l0_1.length c0_1] 25 (0, 0)) zz1 hb) (below_step zz0 hb); clear BK101 HB; obtain ⟨HO104, BK101, HB⟩ := n_; clear ho0 hb; obtain ⟨Ao10, co10, eo10⟩ := Kd.R_slice HO104.out; subst eo10; have hcz11_0 := zC20 BK101; have hcz11_1 := zC21 BK101; have hfz11_0 := blk_frozen BK101.out 0; have hfz11_1 := blk_frozen BK101.out 1))); (go_ret2); exact ⟨_, zz10, zz41, zz0⟩
 rw [if_neg c6] at H; have c6b0 := decide_eq_false c6; clear c6; replace H := Option.bind_eq_some_iff.mp H; obtain ⟨t106, A120, H⟩ := H; (try dsimp only at H); have A12 := Aside0.mk A120; clear A120; simp only [Option.some.injEq, Prod.mk.injEq] at H; obtain ⟨rfl, rfl⟩ := H; go_enter Try.func35, Try.ntmps35; (go_wp2_with (first | ((with_reducible refine gate_dst (N := 3) rfl ?_); (try (refine gate_guard (by rfl) ?_; dsimp only)); refine box_event ?hg (N := 3) ?hd (cs := #[.int .i64 a0_0, .slice A0_1 l0_1.length c0_1]) (t := 25) ?hr ?_; (case hd => rfl); (case hg => rfl); (case hr => exact zz19); intro gb101 hg w13 hbox hb; have n_ := zA4 (below_step zz2 hb) hbox (zz15 : w.heap.size ≤ gb101) (zz15 : w.heap.size ≤ gb101); clear HB; obtain ⟨HB, BK101, GW101, GE101⟩ := n_; clear hb hbox hg; have hcz14_0 := zC20 BK101; have hcz14_1 := zC21 BK101; have hfz14_0 := blk_frozen BK101.out 0; have hfz14_1 := blk_frozen BK101.out 1) | ((with_reducible refine gate_callee (f := 78) rfl ?_); refine goesL_ (some 14) rfl rfl Try.func78 (by kernel_rfl) rfl #[.agg #[.int .i64 a0_0, .slice A0_1 l0_1.length c0_1], .slice A1 l1.length c1, .int .i64 a2] rfl zz3 ?_; (with_reducible refine (impl_BurnFrom.calls k a0_0 _ _ l0_1 _ _ l1 a2 t102 true _ ?side1 ?side2 ?side3 ?side4 A4.out).mono ?_); (case side1 => exact zz5); (case side2 => exact HC0_1.out); (case side3 => exact zz20); (case side4 => exact HC1.out); rintro e w15 ⟨v103, rfl, ho0, hb⟩; refine ⟨_, rfl, ?_⟩; have n_ := zA3 (Kd.R_lower ho0 (below_size zz0)) (blk_below (g := gb101) (o := .cells #[.int .i64 a0_0, .slice A0_1 l0_1.length c0_1] 25 (0, 0)) zz1 hb) (below_step zz0 hb); clear BK101 HB; obtain ⟨HO104, BK101, HB⟩ := n_; clear ho0 hb; obtain ⟨Ao16, co16, eo16⟩ := Kd.R_slice HO104.out; subst eo16; have hcz17_0 := zC20 BK101; have hcz17_1 := zC21 BK101; have hfz17_0 := blk_frozen BK101.out 0; have hfz17_1 := blk_frozen BK101.out 1) | ((with_reducible refine gate_callee (f := 79) rfl ?_); refine goesL_ (some 28) rfl rfl Try.func79 (by kernel_rfl) rfl #[.agg #[.int .i64 a0_0, .slice A0_1 l0_1.length c0_1], .slice Ao16 t102.length co16] rfl zz3 ?_; (with_reducible refine (impl_burnt.calls k a0_0 _ _ l0_1 _ _ t102 t106 _ ?side1 ?side2 ?side3 ?side4 A12.out).mono ?_); (case side1 => exact zz5); (case side2 => exact HC0_1.out); (case side3 => exact zz30); (case side4 => exact (Kd.R_reads' HO104.out).2.1); rintro e w18 ⟨v107, rfl, ho0, hb⟩; refine ⟨_, rfl, ?_⟩; have n_ := zA4 (Kd.R_elder' zz25 (Kd.R_base ho0) hb) (Kd.R_lower (Kd.R_new' ho0 (Kd.R_lt zz25)) (below_size zz0)) (blk_below (g := gb101) (o := .cells #[.int .i64 a0_0, .slice A0_1 l0_1.length c0_1] 25 (0, 0)) zz1 hb) (below_step zz0 hb); clear HO104 BK101 HB; obtain ⟨HO104, HO108, BK101, HB⟩ := n_; clear ho0 hb))); (go_ret2); exact ⟨_, zz10, by (with_reducible repeat (first | apply Kd.R_alloc | apply Kd.R_drewN | apply Kd.R_drew)); exact Kd.R_mono HO108.out (fun _ hk => trivial), zz0⟩
def impl_OrientOk.f (k : Nat) (a0_0 : Int) (l0_1 : List (S83)) (l1 : List Int) : Option (Bool) := (impl_GraphOk.f a0_0 l0_1).bind fun t102 => (if t102 = true then (if (l1.length : Int) = (l0_1.length : Int) then ((impl_allWithin.f k l1 0 1).bind fun t103 => (some t103)) else (some false)) else (some false))
theorem impl_OrientOk.mono : ∀ a0 a1 a2 k, LeO (impl_OrientOk.f k a0 a1 a2) (impl_OrientOk.f (k + 1) a0 a1 a2) := by
 intro a0 a1 a2 k; unfold impl_OrientOk.f; exact zm25
set_option maxHeartbeats 8000000 in
set_option maxRecDepth 100000 in
theorem impl_OrientOk.calls (k : Nat) (a0_0 : Int) (A0_1 : Option Addr) (c0_1 : Nat) (l0_1 : List (S83)) (A1 : Option Addr) (c1 : Nat) (l1 : List Int) (r : Bool) (w : World) (hr0_1 : Kd.C k83 w A0_1 l0_1.length l0_1) (hc0_1 : l0_1.length ≤ c0_1) (hr1 : Kd.C (Kd.int .i64) w A1 l1.length l1) (hc1 : l1.length ≤ c1) (h : impl_OrientOk.f k a0_0 l0_1 l1 = some r) :
  Calls Try.prog 80 #[.agg #[.int .i64 a0_0, .slice A0_1 l0_1.length c0_1], .slice A1 l1.length c1] w fun e w' => e = .returned (.bool r) ∧ Below w.heap.size w w' := by
 have hu25 := Try.underlying25; have HR0_1 := Aside0.mk hr0_1; have HC0_1 := Aside0.mk hc0_1; clear hr0_1 hc0_1; have HR1 := Aside0.mk hr1; have HC1 := Aside0.mk hc1; clear hr1 hc1; have HB := Aside0.mk (Below.refl w.heap.size w); have H : ((impl_GraphOk.f a0_0 l0_1).bind fun t102 => (if t102 = true then (if (l1.length : Int) = (l0_1.length : Int) then ((impl_allWithin.f k l1 0 1).bind fun t103 => (some t103)) else (some false)) else (some false))) = some r := h; clear h; replace H := Option.bind_eq_some_iff.mp H; obtain ⟨t102, A30, H⟩ := H; (try dsimp only at H); have A3 := Aside0.mk A30; clear A30; by_cases c4 : t102 = true; rotate_left
 ·replace c4 := Bool.eq_false_iff.mpr c4; subst c4; rw [if_neg (show ¬ (false = true) by decide)] at H; obtain rfl := Option.some.inj H; go_enter Try.func80, Try.ntmps80; (go_wp2_with (first | ((with_reducible refine gate_dst (N := 2) rfl ?_); (try (refine gate_guard (by rfl) ?_; dsimp only)); refine box_event ?hg (N := 2) ?hd (cs := #[.int .i64 a0_0, .slice A0_1 l0_1.length c0_1]) (t := 25) ?hr ?_; (case hd => rfl); (case hg => rfl); (case hr => exact zz19); intro gb101 hg w15 hbox hb; have n_ := zA4 (below_step zz2 hb) hbox (zz15 : w.heap.size ≤ gb101) (zz15 : w.heap.size ≤ gb101); clear HB; obtain ⟨HB, BK101, GW101, GE101⟩ := n_; clear hb hbox hg; have hcz16_0 := zC20 BK101; have hcz16_1 := zC21 BK101; have hfz16_0 := blk_frozen BK101.out 0; have hfz16_1 := blk_frozen BK101.out 1) | ((with_reducible refine gate_callee (f := 82) rfl ?_); refine goesL_ (some 6) rfl rfl Try.func82 (by kernel_rfl) rfl #[.agg #[.int .i64 a0_0, .slice A0_1 l0_1.length c0_1]] rfl zz3 ?_; (with_reducible refine (impl_GraphOk.calls a0_0 _ _ l0_1 false _ ?side1 ?side2 A3.out).mono ?_); (case side1 => exact zz5); (case side2 => exact HC0_1.out); rintro e w17 ⟨rfl, hb⟩; refine ⟨_, rfl, ?_⟩; have n_ := zA2 (blk_below (g := gb101) (o := .cells #[.int .i64 a0_0, .slice A0_1 l0_1.length c0_1] 25 (0, 0)) zz1 hb) (below_step zz0 hb); clear BK101 HB; obtain ⟨BK101, HB⟩ := n_; clear hb))); go_ret; exact ⟨zz10, zz0⟩
 subst c4; rw [if_pos rfl] at H; by_cases c5 : (l1.length : Int) = (l0_1.length : Int); rotate_left
 ·rw [if_neg c5] at H; have c5b0 : ((l1.length : Int) == (l0_1.length : Int)) = false := beq_eq_false_iff_ne.mpr c5; have c5b1 : ((l1.length : Int) != (l0_1.length : Int)) = true := bne_iff_ne.mpr c5; (have c5b2 : (l1.length == l0_1.length) = false := by first | simpa using c5 | (simp at c5 ⊢; omega)); obtain rfl := Option.some.inj H; go_enter Try.func80, Try.ntmps80; (go_wp2_with (first | ((with_reducible refine gate_dst (N := 2) rfl ?_); (try (refine gate_guard (by rfl) ?_; dsimp only)); refine box_event ?hg (N := 2) ?hd (cs := #[.int .i64 a0_0, .slice A0_1 l0_1.length c0_1]) (t := 25) ?hr ?_; (case hd => rfl); (case hg => rfl); (case hr => exact zz19); intro gb101 hg w11 hbox hb; have n_ := zA4 (below_step zz2 hb) hbox (zz15 : w.heap.size ≤ gb101) (zz15 : w.heap.size ≤ gb101); clear HB; obtain ⟨HB, BK101, GW101, GE101⟩ := n_; clear hb hbox hg; have hcz12_0 := zC20 BK101; have hcz12_1 := zC21 BK101; have hfz12_0 := blk_frozen BK101.out 0; have hfz12_1 := blk_frozen BK101.out 1) | ((with_reducible refine gate_callee (f := 82) rfl ?_); refine goesL_ (some 6) rfl rfl Try.func82 (by kernel_rfl) rfl #[.agg #[.int .i64 a0_0, .slice A0_1 l0_1.length c0_1]] rfl zz3 ?_; (with_reducible refine (impl_GraphOk.calls a0_0 _ _ l0_1 true _ ?side1 ?side2 A3.out).mono ?_); (case side1 => exact zz5); (case side2 => exact HC0_1.out); rintro e w13 ⟨rfl, hb⟩; refine ⟨_, rfl, ?_⟩; have n_ := zA2 (blk_below (g := gb101) (o := .cells #[.int .i64 a0_0, .slice A0_1 l0_1.length c0_1] 25 (0, 0)) zz1 hb) (below_step zz0 hb); clear BK101 HB; obtain ⟨BK101, HB⟩ := n_; clear hb; have hcz14_0 := zC20 BK101; have hcz14_1 := zC21 BK101; have hfz14_0 := blk_frozen BK101.out 0; have hfz14_1 := blk_frozen BK101.out 1))); go_ret; exact ⟨zz10, zz0⟩
 rw [if_pos c5] at H; have c5b0 : ((l1.length : Int) == (l0_1.length : Int)) = true := beq_iff_eq.mpr c5; have c5b1 : ((l1.length : Int) != (l0_1.length : Int)) = false := bne_eq_false_iff_eq.mpr c5; (have c5b2 : (l1.length == l0_1.length) = true := by first | simpa using c5 | (simp at c5 ⊢; omega)); clear c5; replace H := Option.bind_eq_some_iff.mp H; obtain ⟨t103, A60, H⟩ := H; (try dsimp only at H); have A6 := Aside0.mk A60; clear A60; obtain rfl := Option.some.inj H; go_enter Try.func80, Try.ntmps80; (go_wp2_with (first | ((with_reducible refine gate_dst (N := 2) rfl ?_); (try (refine gate_guard (by rfl) ?_; dsimp only)); refine box_event ?hg (N := 2) ?hd (cs := #[.int .i64 a0_0, .slice A0_1 l0_1.length c0_1]) (t := 25) ?hr ?_; (case hd => rfl); (case hg => rfl); (case hr => exact zz19); intro gb101 hg w7 hbox hb; have n_ := zA4 (below_step zz2 hb) hbox (zz15 : w.heap.size ≤ gb101) (zz15 : w.heap.size ≤ gb101); clear HB; obtain ⟨HB, BK101, GW101, GE101⟩ := n_; clear hb hbox hg; have hcz8_0 := zC20 BK101; have hcz8_1 := zC21 BK101; have hfz8_0 := blk_frozen BK101.out 0; have hfz8_1 := blk_frozen BK101.out 1) | ((with_reducible refine gate_callee (f := 82) rfl ?_); refine goesL_ (some 6) rfl rfl Try.func82 (by kernel_rfl) rfl #[.agg #[.int .i64 a0_0, .slice A0_1 l0_1.length c0_1]] rfl zz3 ?_; (with_reducible refine (impl_GraphOk.calls a0_0 _ _ l0_1 true _ ?side1 ?side2 A3.out).mono ?_); (case side1 => exact zz5); (case side2 => exact HC0_1.out); rintro e w9 ⟨rfl, hb⟩; refine ⟨_, rfl, ?_⟩; have n_ := zA2 (blk_below (g := gb101) (o := .cells #[.int .i64 a0_0, .slice A0_1 l0_1.length c0_1] 25 (0, 0)) zz1 hb) (below_step zz0 hb); clear BK101 HB; obtain ⟨BK101, HB⟩ := n_; clear hb; have hcz10_0 := zC20 BK101; have hcz10_1 := zC21 BK101; have hfz10_0 := blk_frozen BK101.out 0; have hfz10_1 := blk_frozen BK101.out 1) | (go_at_call 109; (with_reducible refine (impl_allWithin.calls k _ _ l1 0 1 t103 _ ?side1 ?side2 A6.out).mono ?_); (case side1 => exact zz20); (case side2 => exact HC1.out); rintro e w' ⟨rfl, ⟨nd, rfl⟩⟩))); go_ret; exact ⟨zz10, zz0⟩
def impl_ends.f (a0_0 : Int) (l0_1 : List (S83)) (l1 : List Int) (a2 : Int) : Option (Int × Int) := if 0 ≤ a2 then (if a2 < (l1.length : Int) then (if (rd l1 a2) = 0 then (if a2 < (l0_1.length : Int) then (some ((rd_T83 l0_1 a2).f0, (rd_T83 l0_1 a2).f1)) else (none)) else (if a2 < (l0_1.length : Int) then (some ((rd_T83 l0_1 a2).f1, (rd_T83 l0_1 a2).f0)) else (none))) else (none)) else (none)
set_option maxHeartbeats 8000000 in
set_option maxRecDepth 100000 in
theorem impl_ends.calls (a0_0 : Int) (A0_1 : Option Addr) (c0_1 : Nat) (l0_1 : List (S83)) (A1 : Option Addr) (c1 : Nat) (l1 : List Int) (a2 : Int) (r1 : Int) (r2 : Int) (w : World) (hr0_1 : Kd.C k83 w A0_1 l0_1.length l0_1) (hc0_1 : l0_1.length ≤ c0_1) (hr1 : Kd.C (Kd.int .i64) w A1 l1.length l1) (hc1 : l1.length ≤ c1) (h : impl_ends.f a0_0 l0_1 l1 a2 = some (r1, r2)) :
  Calls Try.prog 81 #[.agg #[.int .i64 a0_0, .slice A0_1 l0_1.length c0_1], .slice A1 l1.length c1, .int .i64 a2] w fun e w' => e = .returned (.tuple #[.int .i64 r1, .int .i64 r2]) ∧ Below w.heap.size w w' := by
 have hu25 := Try.underlying25; have HR0_1 := Aside0.mk hr0_1; have HC0_1 := Aside0.mk hc0_1; clear hr0_1 hc0_1; have HR1 := Aside0.mk hr1; have HC1 := Aside0.mk hc1; clear hr1 hc1; have HB := Aside0.mk (Below.refl w.heap.size w); have H : (if 0 ≤ a2 then (if a2 < (l1.length : Int) then (if (rd l1 a2) = 0 then (if a2 < (l0_1.length : Int) then (some ((rd_T83 l0_1 a2).f0, (rd_T83 l0_1 a2).f1)) else (none)) else (if a2 < (l0_1.length : Int) then (some ((rd_T83 l0_1 a2).f1, (rd_T83 l0_1 a2).f0)) else (none))) else (none)) else (none)) = some (r1, r2) := h; clear h; by_cases c4 : 0 ≤ a2; rotate_left
 ·rw [if_neg c4] at H; exact absurd H (by simp)
 rw [if_pos c4] at H; have c4b0 := decide_eq_true c4; clear c4; by_cases c5 : a2 < (l1.length : Int); rotate_left
 ·rw [if_neg c5] at H; exact absurd H (by simp)
 rw [if_pos c5] at H; have c5b0 := decide_eq_true c5; clear c5; by_cases c6 : (rd l1 a2) = 0; rotate_left
 ·rw [if_neg c6] at H; have c6b0 : ((rd l1 a2) == 0) = false := beq_eq_false_iff_ne.mpr c6; have c6b1 : ((rd l1 a2) != 0) = true := bne_iff_ne.mpr c6; by_cases c10 : a2 < (l0_1.length : Int); rotate_left
  ·rw [if_neg c10] at H; exact absurd H (by simp)
  rw [if_pos c10] at H; have c10b0 := decide_eq_true c10; clear c10; simp only [Option.some.injEq, Prod.mk.injEq] at H; obtain ⟨rfl, rfl⟩ := H; go_enter Try.func81, Try.ntmps81; (go_wp2_with (first | ((with_reducible refine gate_dst (N := 3) rfl ?_); refine box_event ?hg (N := 3) ?hd (cs := #[.int .i64 a0_0, .slice A0_1 l0_1.length c0_1]) (t := 25) ?hr ?_; (case hd => rfl); (case hg => rfl); (case hr => exact zz19); intro gb101 hg w11 hbox hb; have n_ := zA4 (below_step zz2 hb) hbox (zz15 : w.heap.size ≤ gb101) (zz15 : w.heap.size ≤ gb101); clear HB; obtain ⟨HB, BK101, GW101, GE101⟩ := n_; clear hb hbox hg; have p102 : 0 ≤ (a2 : Int) := of_decide_eq_true zz4; have q102 : a2 < (l1.length : Int) := of_decide_eq_true zz4; obtain ⟨ad102, e102, hx102_0⟩ := Kd.at_int HR1.out a2 p102 q102; cases e102; replace hx102_0 := (HB.out.cell (World.block_lt_of_cell? w _ hx102_0)).trans hx102_0; replace p102 := eq_true p102; replace q102 := eq_true q102; have hcz12_0 := zC20 BK101; have hcz12_1 := zC21 BK101; have hfz12_0 := blk_frozen BK101.out 0; have hfz12_1 := blk_frozen BK101.out 1; have p105 : 0 ≤ (a2 : Int) := of_decide_eq_true zz4; have q105 : a2 < (l0_1.length : Int) := of_decide_eq_true zz4; obtain ⟨ad105, e105, hx105_0, hx105_1⟩ := at_T83 HR0_1.out a2 p105 q105; cases e105; replace hx105_0 := (HB.out.cell (World.block_lt_of_cell? w _ hx105_0)).trans hx105_0; replace hx105_1 := (HB.out.cell (World.block_lt_of_cell? w _ hx105_1)).trans hx105_1; replace p105 := eq_true p105; replace q105 := eq_true q105; have p106 : 0 ≤ (a2 : Int) := of_decide_eq_true zz4; have q106 : a2 < (l0_1.length : Int) := of_decide_eq_true zz4; obtain ⟨ad106, e106, hx106_0, hx106_1⟩ := at_T83 HR0_1.out a2 p106 q106; obtain rfl : ad105 = ad106 := (by injection e106); replace hx106_0 := (HB.out.cell (World.block_lt_of_cell? w _ hx106_0)).trans hx106_0; replace hx106_1 := (HB.out.cell (World.block_lt_of_cell? w _ hx106_1)).trans hx106_1; replace p106 := eq_true p106; replace q106 := eq_true q106))); (repeat (go_quiet (first | ((with_reducible refine gate_dst (N := 3) rfl ?_); refine box_event ?hg (N := 3) ?hd (cs := #[.int .i64 a0_0, .slice A0_1 l0_1.length c0_1]) (t := 25) ?hr ?_; (case hd => rfl); (case hg => rfl); (case hr => exact zz19); intro gb101 hg w11 hbox hb; have n_ := zA4 (below_step zz2 hb) hbox (zz15 : w.heap.size ≤ gb101) (zz15 : w.heap.size ≤ gb101); clear HB; obtain ⟨HB, BK101, GW101, GE101⟩ := n_; clear hb hbox hg; have p102 : 0 ≤ (a2 : Int) := of_decide_eq_true zz4; have q102 : a2 < (l1.length : Int) := of_decide_eq_true zz4; obtain ⟨ad102, e102, hx102_0⟩ := Kd.at_int HR1.out a2 p102 q102; cases e102; replace hx102_0 := (HB.out.cell (World.block_lt_of_cell? w _ hx102_0)).trans hx102_0; replace p102 := eq_true p102; replace q102 := eq_true q102; have hcz12_0 := zC20 BK101; have hcz12_1 := zC21 BK101; have hfz12_0 := blk_frozen BK101.out 0; have hfz12_1 := blk_frozen BK101.out 1; have p105 : 0 ≤ (a2 : Int) := of_decide_eq_true zz4; have q105 : a2 < (l0_1.length : Int) := of_decide_eq_true zz4; obtain ⟨ad105, e105, hx105_0, hx105_1⟩ := at_T83 HR0_1.out a2 p105 q105; cases e105; replace hx105_0 := (HB.out.cell (World.block_lt_of_cell? w _ hx105_0)).trans hx105_0; replace hx105_1 := (HB.out.cell (World.block_lt_of_cell? w _ hx105_1)).trans hx105_1; replace p105 := eq_true p105; replace q105 := eq_true q105; have p106 : 0 ≤ (a2 : Int) := of_decide_eq_true zz4; have q106 : a2 < (l0_1.length : Int) := of_decide_eq_true zz4; obtain ⟨ad106, e106, hx106_0, hx106_1⟩ := at_T83 HR0_1.out a2 p106 q106; obtain rfl : ad105 = ad106 := (by injection e106); replace hx106_0 := (HB.out.cell (World.block_lt_of_cell? w _ hx106_0)).trans hx106_0; replace hx106_1 := (HB.out.cell (World.block_lt_of_cell? w _ hx106_1)).trans hx106_1; replace p106 := eq_true p106; replace q106 := eq_true q106)); try go_wp2_with (first | ((with_reducible refine gate_dst (N := 3) rfl ?_); refine box_event ?hg (N := 3) ?hd (cs := #[.int .i64 a0_0, .slice A0_1 l0_1.length c0_1]) (t := 25) ?hr ?_; (case hd => rfl); (case hg => rfl); (case hr => exact zz19); intro gb101 hg w11 hbox hb; have n_ := zA4 (below_step zz2 hb) hbox (zz15 : w.heap.size ≤ gb101) (zz15 : w.heap.size ≤ gb101); clear HB; obtain ⟨HB, BK101, GW101, GE101⟩ := n_; clear hb hbox hg; have p102 : 0 ≤ (a2 : Int) := of_decide_eq_true zz4; have q102 : a2 < (l1.length : Int) := of_decide_eq_true zz4; obtain ⟨ad102, e102, hx102_0⟩ := Kd.at_int HR1.out a2 p102 q102; cases e102; replace hx102_0 := (HB.out.cell (World.block_lt_of_cell? w _ hx102_0)).trans hx102_0; replace p102 := eq_true p102; replace q102 := eq_true q102; have hcz12_0 := zC20 BK101; have hcz12_1 := zC21 BK101; have hfz12_0 := blk_frozen BK101.out 0; have hfz12_1 := blk_frozen BK101.out 1; have p105 : 0 ≤ (a2 : Int) := of_decide_eq_true zz4; have q105 : a2 < (l0_1.length : Int) := of_decide_eq_true zz4; obtain ⟨ad105, e105, hx105_0, hx105_1⟩ := at_T83 HR0_1.out a2 p105 q105; cases e105; replace hx105_0 := (HB.out.cell (World.block_lt_of_cell? w _ hx105_0)).trans hx105_0; replace hx105_1 := (HB.out.cell (World.block_lt_of_cell? w _ hx105_1)).trans hx105_1; replace p105 := eq_true p105; replace q105 := eq_true q105; have p106 : 0 ≤ (a2 : Int) := of_decide_eq_true zz4; have q106 : a2 < (l0_1.length : Int) := of_decide_eq_true zz4; obtain ⟨ad106, e106, hx106_0, hx106_1⟩ := at_T83 HR0_1.out a2 p106 q106; obtain rfl : ad105 = ad106 := (by injection e106); replace hx106_0 := (HB.out.cell (World.block_lt_of_cell? w _ hx106_0)).trans hx106_0; replace hx106_1 := (HB.out.cell (World.block_lt_of_cell? w _ hx106_1)).trans hx106_1; replace p106 := eq_true p106; replace q106 := eq_true q106)))); (go_ret2); exact ⟨zz10, zz0⟩
 rw [if_pos c6] at H; have c6b0 : ((rd l1 a2) == 0) = true := beq_iff_eq.mpr c6; have c6b1 : ((rd l1 a2) != 0) = false := bne_eq_false_iff_eq.mpr c6; clear c6; by_cases c7 : a2 < (l0_1.length : Int); rotate_left
 ·rw [if_neg c7] at H; exact absurd H (by simp)
 rw [if_pos c7] at H; have c7b0 := decide_eq_true c7; clear c7; simp only [Option.some.injEq, Prod.mk.injEq] at H; obtain ⟨rfl, rfl⟩ := H; go_enter Try.func81, Try.ntmps81; (go_wp2_with (first | ((with_reducible refine gate_dst (N := 3) rfl ?_); refine box_event ?hg (N := 3) ?hd (cs := #[.int .i64 a0_0, .slice A0_1 l0_1.length c0_1]) (t := 25) ?hr ?_; (case hd => rfl); (case hg => rfl); (case hr => exact zz19); intro gb101 hg w8 hbox hb; have n_ := zA4 (below_step zz2 hb) hbox (zz15 : w.heap.size ≤ gb101) (zz15 : w.heap.size ≤ gb101); clear HB; obtain ⟨HB, BK101, GW101, GE101⟩ := n_; clear hb hbox hg; have p102 : 0 ≤ (a2 : Int) := of_decide_eq_true zz4; have q102 : a2 < (l1.length : Int) := of_decide_eq_true zz4; obtain ⟨ad102, e102, hx102_0⟩ := Kd.at_int HR1.out a2 p102 q102; cases e102; replace hx102_0 := (HB.out.cell (World.block_lt_of_cell? w _ hx102_0)).trans hx102_0; replace p102 := eq_true p102; replace q102 := eq_true q102; have hcz9_0 := zC20 BK101; have hcz9_1 := zC21 BK101; have hfz9_0 := blk_frozen BK101.out 0; have hfz9_1 := blk_frozen BK101.out 1; have p103 : 0 ≤ (a2 : Int) := of_decide_eq_true zz4; have q103 : a2 < (l0_1.length : Int) := of_decide_eq_true zz4; obtain ⟨ad103, e103, hx103_0, hx103_1⟩ := at_T83 HR0_1.out a2 p103 q103; cases e103; replace hx103_0 := (HB.out.cell (World.block_lt_of_cell? w _ hx103_0)).trans hx103_0; replace hx103_1 := (HB.out.cell (World.block_lt_of_cell? w _ hx103_1)).trans hx103_1; replace p103 := eq_true p103; replace q103 := eq_true q103; have p104 : 0 ≤ (a2 : Int) := of_decide_eq_true zz4; have q104 : a2 < (l0_1.length : Int) := of_decide_eq_true zz4; obtain ⟨ad104, e104, hx104_0, hx104_1⟩ := at_T83 HR0_1.out a2 p104 q104; obtain rfl : ad103 = ad104 := (by injection e104); replace hx104_0 := (HB.out.cell (World.block_lt_of_cell? w _ hx104_0)).trans hx104_0; replace hx104_1 := (HB.out.cell (World.block_lt_of_cell? w _ hx104_1)).trans hx104_1; replace p104 := eq_true p104; replace q104 := eq_true q104))); (repeat (go_quiet (first | ((with_reducible refine gate_dst (N := 3) rfl ?_); refine box_event ?hg (N := 3) ?hd (cs := #[.int .i64 a0_0, .slice A0_1 l0_1.length c0_1]) (t := 25) ?hr ?_; (case hd => rfl); (case hg => rfl); (case hr => exact zz19); intro gb101 hg w8 hbox hb; have n_ := zA4 (below_step zz2 hb) hbox (zz15 : w.heap.size ≤ gb101) (zz15 : w.heap.size ≤ gb101); clear HB; obtain ⟨HB, BK101, GW101, GE101⟩ := n_; clear hb hbox hg; have p102 : 0 ≤ (a2 : Int) := of_decide_eq_true zz4; have q102 : a2 < (l1.length : Int) := of_decide_eq_true zz4; obtain ⟨ad102, e102, hx102_0⟩ := Kd.at_int HR1.out a2 p102 q102; cases e102; replace hx102_0 := (HB.out.cell (World.block_lt_of_cell? w _ hx102_0)).trans hx102_0; replace p102 := eq_true p102; replace q102 := eq_true q102; have hcz9_0 := zC20 BK101; have hcz9_1 := zC21 BK101; have hfz9_0 := blk_frozen BK101.out 0; have hfz9_1 := blk_frozen BK101.out 1; have p103 : 0 ≤ (a2 : Int) := of_decide_eq_true zz4; have q103 : a2 < (l0_1.length : Int) := of_decide_eq_true zz4; obtain ⟨ad103, e103, hx103_0, hx103_1⟩ := at_T83 HR0_1.out a2 p103 q103; cases e103; replace hx103_0 := (HB.out.cell (World.block_lt_of_cell? w _ hx103_0)).trans hx103_0; replace hx103_1 := (HB.out.cell (World.block_lt_of_cell? w _ hx103_1)).trans hx103_1; replace p103 := eq_true p103; replace q103 := eq_true q103; have p104 : 0 ≤ (a2 : Int) := of_decide_eq_true zz4; have q104 : a2 < (l0_1.length : Int) := of_decide_eq_true zz4; obtain ⟨ad104, e104, hx104_0, hx104_1⟩ := at_T83 HR0_1.out a2 p104 q104; obtain rfl : ad103 = ad104 := (by injection e104); replace hx104_0 := (HB.out.cell (World.block_lt_of_cell? w _ hx104_0)).trans hx104_0; replace hx104_1 := (HB.out.cell (World.block_lt_of_cell? w _ hx104_1)).trans hx104_1; replace p104 := eq_true p104; replace q104 := eq_true q104)); try go_wp2_with (first | ((with_reducible refine gate_dst (N := 3) rfl ?_); refine box_event ?hg (N := 3) ?hd (cs := #[.int .i64 a0_0, .slice A0_1 l0_1.length c0_1]) (t := 25) ?hr ?_; (case hd => rfl); (case hg => rfl); (case hr => exact zz19); intro gb101 hg w8 hbox hb; have n_ := zA4 (below_step zz2 hb) hbox (zz15 : w.heap.size ≤ gb101) (zz15 : w.heap.size ≤ gb101); clear HB; obtain ⟨HB, BK101, GW101, GE101⟩ := n_; clear hb hbox hg; have p102 : 0 ≤ (a2 : Int) := of_decide_eq_true zz4; have q102 : a2 < (l1.length : Int) := of_decide_eq_true zz4; obtain ⟨ad102, e102, hx102_0⟩ := Kd.at_int HR1.out a2 p102 q102; cases e102; replace hx102_0 := (HB.out.cell (World.block_lt_of_cell? w _ hx102_0)).trans hx102_0; replace p102 := eq_true p102; replace q102 := eq_true q102; have hcz9_0 := zC20 BK101; have hcz9_1 := zC21 BK101; have hfz9_0 := blk_frozen BK101.out 0; have hfz9_1 := blk_frozen BK101.out 1; have p103 : 0 ≤ (a2 : Int) := of_decide_eq_true zz4; have q103 : a2 < (l0_1.length : Int) := of_decide_eq_true zz4; obtain ⟨ad103, e103, hx103_0, hx103_1⟩ := at_T83 HR0_1.out a2 p103 q103; cases e103; replace hx103_0 := (HB.out.cell (World.block_lt_of_cell? w _ hx103_0)).trans hx103_0; replace hx103_1 := (HB.out.cell (World.block_lt_of_cell? w _ hx103_1)).trans hx103_1; replace p103 := eq_true p103; replace q103 := eq_true q103; have p104 : 0 ≤ (a2 : Int) := of_decide_eq_true zz4; have q104 : a2 < (l0_1.length : Int) := of_decide_eq_true zz4; obtain ⟨ad104, e104, hx104_0, hx104_1⟩ := at_T83 HR0_1.out a2 p104 q104; obtain rfl : ad103 = ad104 := (by injection e104); replace hx104_0 := (HB.out.cell (World.block_lt_of_cell? w _ hx104_0)).trans hx104_0; replace hx104_1 := (HB.out.cell (World.block_lt_of_cell? w _ hx104_1)).trans hx104_1; replace p104 := eq_true p104; replace q104 := eq_true q104)))); (go_ret2); exact ⟨zz10, zz0⟩
mutual
def impl_DivisorOfOrient.l0 : Nat → List Int → List Int → Int → Int → Int → List (S83) → Option (List Int × Bool)
 | 0, _, _, _, _, _, _ => none
 | k + 1, x1, x6, x19, x20, x102000, x102001 => if x20 < x19 then (if 0 ≤ x20 then (if x20 < (x6.length : Int) then (impl_DivisorOfOrient.l0 k x1 (x6.set (x20 : Int).toNat (-1)) x19 (wrap64 (x20 + 1)) x102000 x102001) else (none)) else (none)) else (impl_DivisorOfOrient.l1 k x1 x6 (x1.length : Int) 0 x102000 x102001)
def impl_DivisorOfOrient.l1 : Nat → List Int → List Int → Int → Int → Int → List (S83) → Option (List Int × Bool)
 | 0, _, _, _, _, _, _ => none
 | k + 1, x1, x6, x28, x29, x102000, x102001 => if x29 < x28 then ((impl_ends.f x102000 x102001 x1 x29).bind fun bt107 => (if 0 ≤ bt107.2 then (if bt107.2 < (x6.length : Int) then (impl_DivisorOfOrient.l1 k x1 (x6.set (bt107.2 : Int).toNat (wrap64 ((rd x6 bt107.2) + 1))) x28 (wrap64 (x29 + 1)) x102000 x102001) else (none)) else (none))) else (some (x6, true))
end
def impl_DivisorOfOrient.f (k : Nat) (a0_0 : Int) (l0_1 : List (S83)) (l1 : List Int) : Option (List Int × Bool) := (impl_OrientOk.f k a0_0 l0_1 l1).bind fun t102 => (if t102 = true then (if 0 ≤ a0_0 then (if (a0_0 : Int).toNat ≤ 35184372088832 then ((some (List.replicate (a0_0 : Int).toNat 0 : List Int)).bind fun y103 => (impl_DivisorOfOrient.l0 k l1 y103 (y103.length : Int) 0 a0_0 l0_1)) else (none)) else (none)) else (some (([] : List Int), false)))
theorem impl_DivisorOfOrient.mono_l : ∀ k, (∀ y0 y1 y2 y3 y4 y5, LeO (impl_DivisorOfOrient.l0 k y0 y1 y2 y3 y4 y5) (impl_DivisorOfOrient.l0 (k + 1) y0 y1 y2 y3 y4 y5)) ∧ (∀ y0 y1 y2 y3 y4 y5, LeO (impl_DivisorOfOrient.l1 k y0 y1 y2 y3 y4 y5) (impl_DivisorOfOrient.l1 (k + 1) y0 y1 y2 y3 y4 y5))
 | 0 => ⟨fun _ _ _ _ _ _ r h => by simp [impl_DivisorOfOrient.l0] at h, fun _ _ _ _ _ _ r h => by simp [impl_DivisorOfOrient.l1] at h⟩
 | k + 1 => by
  obtain ⟨ih0, ih1⟩ := impl_DivisorOfOrient.mono_l k
  refine ⟨?_, ?_⟩
  ·intro y0 y1 y2 y3 y4 y5
   unfold impl_DivisorOfOrient.l0
   exact zm7
  ·intro y0 y1 y2 y3 y4 y5
   unfold impl_DivisorOfOrient.l1
   exact zm7
theorem impl_DivisorOfOrient.mono : ∀ a0 a1 a2 k, LeO (impl_DivisorOfOrient.f k a0 a1 a2) (impl_DivisorOfOrient.f (k + 1) a0 a1 a2) := by
 intro a0 a1 a2 k; obtain ⟨ih0, ih1⟩ := impl_DivisorOfOrient.mono_l k; unfold impl_DivisorOfOrient.f; exact zm7
set_option maxHeartbeats 8000000 in
set_option maxRecDepth 100000 in
theorem impl_DivisorOfOrient.calls (k : Nat) (a0_0 : Int) (A0_1 : Option Addr) (c0_1 : Nat) (l0_1 : List (S83)) (A1 : Option Addr) (c1 : Nat) (l1 : List Int) (r1 : List Int) (r2 : Bool) (w : World) (hr0_1 : Kd.C k83 w A0_1 l0_1.length l0_1) (hc0_1 : l0_1.length ≤ c0_1) (hr1 : Kd.C (Kd.int .i64) w A1 l1.length l1) (hc1 : l1.length ≤ c1) (h : impl_DivisorOfOrient.f k a0_0 l0_1 l1 = some (r1, r2)) :
  Calls Try.prog 36 #[.agg #[.int .i64 a0_0, .slice A0_1 l0_1.length c0_1], .slice A1 l1.length c1] w fun e w' => ∃ v0_ : Value, e = .returned (.tuple #[v0_, .bool r2]) ∧ Kd.R (Kd.int .i64) 3 w' w.heap.size (fun _ => True) v0_ r1 ∧ Below w.heap.size w w' := by
 have hu25 := Try.underlying25; have HR0_1 := Aside0.mk hr0_1; have HC0_1 := Aside0.mk hc0_1; clear hr0_1 hc0_1; have HR1 := Aside0.mk hr1; have HC1 := Aside0.mk hc1; clear hr1 hc1; have HB := Aside0.mk (Below.refl w.heap.size w); have H : ((impl_OrientOk.f k a0_0 l0_1 l1).bind fun t102 => (if t102 = true then (if 0 ≤ a0_0 then (if (a0_0 : Int).toNat ≤ 35184372088832 then ((some (List.replicate (a0_0 : Int).toNat 0 : List Int)).bind fun y103 => (impl_DivisorOfOrient.l0 k l1 y103 (y103.length : Int) 0 a0_0 l0_1)) else (none)) else (none)) else (some (([] : List Int), false)))) = some (r1, r2) := h; clear h; replace H := Option.bind_eq_some_iff.mp H; obtain ⟨t102, A30, H⟩ := H; (try dsimp only at H); have A3 := Aside0.mk A30; clear A30; by_cases c4 : t102 = true; rotate_left
 ·replace c4 := Bool.eq_false_iff.mpr c4; subst c4; rw [if_neg (show ¬ (false = true) by decide)] at H; simp only [Option.some.injEq, Prod.mk.injEq] at H; obtain ⟨rfl, rfl⟩ := H; go_enter Try.func36, Try.ntmps36; (go_wp2_with (first | ((with_reducible refine gate_dst (N := 2) rfl ?_); refine box_event ?hg (N := 2) ?hd (cs := #[.int .i64 a0_0, .slice A0_1 l0_1.length c0_1]) (t := 25) ?hr ?_; (case hd => rfl); (case hg => rfl); (case hr => exact zz19); intro gb101 hg w29 hbox hb; have n_ := zA4 (below_step zz2 hb) hbox (zz15 : w.heap.size ≤ gb101) (zz15 : w.heap.size ≤ gb101); clear HB; obtain ⟨HB, BK101, GW101, GE101⟩ := n_; clear hb hbox hg; have hcz30_0 := zC20 BK101; have hcz30_1 := zC21 BK101; have hfz30_0 := blk_frozen BK101.out 0; have hfz30_1 := blk_frozen BK101.out 1) | ((with_reducible refine gate_callee (f := 80) rfl ?_); refine goesL_ (some 13) rfl rfl Try.func80 (by kernel_rfl) rfl #[.agg #[.int .i64 a0_0, .slice A0_1 l0_1.length c0_1], .slice A1 l1.length c1] rfl zz3 ?_; (with_reducible refine (impl_OrientOk.calls k a0_0 _ _ l0_1 _ _ l1 false _ ?side1 ?side2 ?side3 ?side4 A3.out).mono ?_); (case side1 => exact zz5); (case side2 => exact HC0_1.out); (case side3 => exact zz20); (case side4 => exact HC1.out); rintro e w31 ⟨rfl, hb⟩; refine ⟨_, rfl, ?_⟩; have n_ := zA2 (blk_below (g := gb101) (o := .cells #[.int .i64 a0_0, .slice A0_1 l0_1.length c0_1] 25 (0, 0)) zz1 hb) (below_step zz0 hb); clear BK101 HB; obtain ⟨BK101, HB⟩ := n_; clear hb))); (go_ret2); exact ⟨_, zz10, zz41, zz0⟩
 subst c4; rw [if_pos rfl] at H; by_cases c5 : 0 ≤ a0_0; rotate_left
 ·rw [if_neg c5] at H; exact absurd H (by simp)
 rw [if_pos c5] at H; have c5b0 := eq_true c5; have c5b1 : decide (0 ≤ a0_0) = true := decide_eq_true c5; clear c5; by_cases c6 : (a0_0 : Int).toNat ≤ 35184372088832; rotate_left
 ·rw [if_neg c6] at H; exact absurd H (by simp)
 rw [if_pos c6] at H; have c6b0 := eq_true c6; have c6b1 : decide ((a0_0 : Int).toNat ≤ 35184372088832) = true := decide_eq_true c6; clear c6; obtain ⟨y103, hy_⟩ : ∃ y_ : List Int, y_ = (List.replicate (a0_0 : Int).toNat 0) := ⟨_, rfl⟩; (replace H : (impl_DivisorOfOrient.l0 k l1 y103 (y103.length : Int) 0 a0_0 l0_1) = some (r1, r2) := zzY); have Ny103 := Aside0.mk hy_; clear hy_; have H' := Aside0.mk H; clear H; go_enter Try.func36, Try.ntmps36; (go_wp2_with (first | ((with_reducible refine gate_dst (N := 2) rfl ?_); refine box_event ?hg (N := 2) ?hd (cs := #[.int .i64 a0_0, .slice A0_1 l0_1.length c0_1]) (t := 25) ?hr ?_; (case hd => rfl); (case hg => rfl); (case hr => exact zz19); intro gb101 hg w7 hbox hb; have n_ := zA4 (below_step zz2 hb) hbox (zz15 : w.heap.size ≤ gb101) (zz15 : w.heap.size ≤ gb101); clear HB; obtain ⟨HB, BK101, GW101, GE101⟩ := n_; clear hb hbox hg; have hcz8_0 := zC20 BK101; have hcz8_1 := zC21 BK101; have hfz8_0 := blk_frozen BK101.out 0; have hfz8_1 := blk_frozen BK101.out 1) | ((with_reducible refine gate_callee (f := 80) rfl ?_); refine goesL_ (some 13) rfl rfl Try.func80 (by kernel_rfl) rfl #[.agg #[.int .i64 a0_0, .slice A0_1 l0_1.length c0_1], .slice A1 l1.length c1] rfl zz3 ?_; (with_reducible refine (impl_OrientOk.calls k a0_0 _ _ l0_1 _ _ l1 true _ ?side1 ?side2 ?side3 ?side4 A3.out).mono ?_); (case side1 => exact zz5); (case side2 => exact HC0_1.out); (case side3 => exact zz20); (case side4 => exact HC1.out); rintro e w9 ⟨rfl, hb⟩; refine ⟨_, rfl, ?_⟩; have n_ := zA2 (blk_below (g := gb101) (o := .cells #[.int .i64 a0_0, .slice A0_1 l0_1.length c0_1] 25 (0, 0)) zz1 hb) (below_step zz0 hb); clear BK101 HB; obtain ⟨BK101, HB⟩ := n_; clear hb; have hcz10_0 := zC20 BK101; have hcz10_1 := zC21 BK101; have hfz10_0 := blk_frozen BK101.out 0; have hfz10_1 := blk_frozen BK101.out 1) | ((with_reducible refine gate_dst (N := 17) rfl ?_); refine Kd.R_make (Kd.int .i64) _ 3 rfl (N := 17) rfl 28 _ _ rfl a0_0 rfl rfl Try.underlying28 (.int .i64 0) 8 info3 rfl (by decide) (by omega) 0 (ok := fun _ => True) (okp := fun _ => True) rfl (fun _ hk => hk) trivial (of_decide_eq_true zz4) (Nat.le_trans (Nat.mul_le_mul_right _ (of_decide_eq_true zz4 : a0_0.toNat ≤ 35184372088832)) (by omega)) (Below.refl _ _) (Nat.le_refl _) ?_; intro v104 w11 ho12 hb hg_ hnew_; clear hg_ hnew_; (first | rw [← Ny103.out] at ho12 | (simp only [Int.reduceToNat] at ho12; rw [← Ny103.out] at ho12)); have n_ := zA3 (Kd.R_lower ho12 (below_size zz0)) (blk_below (g := gb101) (o := .cells #[.int .i64 a0_0, .slice A0_1 l0_1.length c0_1] 25 (0, 0)) zz1 hb) (below_step zz0 hb); clear BK101 HB; obtain ⟨HO105, BK101, HB⟩ := n_; clear hb ho12; obtain ⟨Ao13, co13, eo13⟩ := Kd.R_slice HO105.out; subst eo13))); (go_loopg [20] k (fun kq v20 w' => ∃ (x6_1 : List Int) (x20_1 : Int), v20 = .int .i64 x20_1 ∧ Aside0 (impl_DivisorOfOrient.l0 kq l1 x6_1 (y103.length : Int) x20_1 a0_0 l0_1 = some (r1, r2)) ∧ Aside0 (kq ≤ k) ∧ Aside0 (Kd.R (Kd.int .i64) 3 w' w.heap.size (fun _ => True) (.slice Ao13 y103.length co13) x6_1) ∧ Aside0 (w'.heap[gb101]? = some (.cells #[.int .i64 a0_0, (.slice A0_1 l0_1.length c0_1)] 25 (0, 0))) ∧ Aside0 (Below w.heap.size w w'))); case atStart => exact ⟨(y103), (0), zz7, H', ⟨Nat.le_refl _⟩, ⟨by (with_reducible repeat (first | apply Kd.R_alloc | apply Kd.R_drewN | apply Kd.R_drew)); exact HO105.out⟩, ⟨zz1⟩, ⟨zz0⟩⟩
 case round =>
  clear H'; (try clear c1); (try clear p2); (try clear c3); (try clear c4); (try clear c5); (try clear c5b0); (try clear c5b1); (try clear c6); (try clear c6b0); (try clear c6b1); (try clear c8); (try clear hcz10_0); (try clear hcz10_1); (try clear hcz8_0); (try clear hcz8_1); (try clear hfz10_0); (try clear hfz10_1); (try clear hfz8_0); (try clear hfz8_1); obtain ⟨x6_1, x20_1, rfl, HA, HK1, HO_6, BK101, HB⟩ := hrel; have hl6_1 := (Kd.R_reads' HO_6.out).1; rw [hl6_1] at HO_6; (try simp only [hl6_1]); (try simp only [hl6_1] at BK101)
  cases gk with
  | zero => exact absurd HA.out (by simp [impl_DivisorOfOrient.l0])
  | succ k1 =>
   have H := HA.out; clear HA; simp only [impl_DivisorOfOrient.l0] at H; by_cases c14 : x20_1 < (y103.length : Int)
   ·rw [if_pos c14] at H; have c14b0 := decide_eq_true c14; (try (have c14b86_1 := c14b0; first | rw [hl6_1] at c14b86_1 | rw [← hl6_1] at c14b86_1)); clear c14; by_cases c15 : 0 ≤ x20_1; rotate_left
    ·rw [if_neg c15] at H; exact absurd H (by simp)
    rw [if_pos c15] at H; have c15b0 := decide_eq_true c15; clear c15; by_cases c16 : x20_1 < (x6_1.length : Int); rotate_left
    ·rw [if_neg c16] at H; exact absurd H (by simp)
    rw [if_pos c16] at H; have c16b0 := decide_eq_true c16; (try (have c16b86_1 := c16b0; first | rw [hl6_1] at c16b86_1 | rw [← hl6_1] at c16b86_1)); clear c16; obtain ⟨y106, hy_⟩ : ∃ y_ : List Int, y_ = (x6_1.set (x20_1 : Int).toNat (-1)) := ⟨_, rfl⟩; (replace H : (impl_DivisorOfOrient.l0 k1 l1 y106 (y103.length : Int) (wrap64 (x20_1 + 1)) a0_0 l0_1) = some (r1, r2) := zzY); have Ny106 := Aside0.mk hy_; clear hy_; have H' := Aside0.mk H; clear H; have p17 : 0 ≤ (x20_1 : Int) := of_decide_eq_true zz4; have q17 : (x20_1 : Int) < ((x6_1.length : Int) : Int) := of_decide_eq_true zz4; obtain ⟨go17, co17, eo17, gb17, gl17, cl17, HG17⟩ := Kd.R_form HO_6.out (by omega); (first | cases eo17 | (injection eo17 with ea_ en_ ec_; (first | subst ea_ | (injection ea_ with ea_; subst ea_)); subst ec_; clear en_)); have GB17 := Aside0.mk gb17; have GG17 := Aside0.mk HG17; clear gb17 gl17 HG17; obtain ⟨hx17_0, hf17_0⟩ := Kd.R_celln 0 HO_6.out (x20_1 : Int) p17 q17; replace p17 := eq_true p17; replace q17 := eq_true q17; have HP18 := Kd.R_putg HO_6.out (x20_1 : Int) (-1); (go_wp2_with (first | ((with_reducible refine gate_store (t := 3) (p := 25) rfl ?_); refine store_event (t := 3) (p := 25) (v := ?vo_w19) (w1 := (wr.setCell ⟨go17, (x20_1 : Int).toNat, none⟩ (.int .i64 (-1)))) ?hg ?ho ?hn ?hr ?_; (case ho => rfl); (case hg => rfl); (case hn => rfl); (case hr => exact zz19); intro w19 hw; have hg : wr.grownBy w19 (some go17) := (by rw [hw]; exact HP18.2); have hp_ : Kd.R (Kd.int .i64) 3 w19 w.heap.size (fun _ => True) (.slice (some ⟨go17, 0, none⟩) x6_1.length co13) y106 := (by rw [hw, Ny106.out]; exact HP18.1); clear HP18; have n_ := zA3 hp_ (blk_grown (g := gb101) (o := .cells #[.int .i64 a0_0, .slice A0_1 l0_1.length c0_1] 25 (0, 0)) zz1 hg (Kd.R_ne HO_6.out BK101.out (by decide))) (by rw [hw]; exact below_set (HB.out) GB17.out : Below w.heap.size w w19); clear HO_6 BK101 HB; obtain ⟨HO_6, BK101, HB⟩ := n_; clear hg hw hp_))); (try simp only [← hl6_1]); go_roundg k1; (case measure => have := HK1.out; omega); case rel => exact ⟨(y106), (wrap64 (x20_1 + 1)), zz7, H', ⟨zz98⟩, ⟨by (try simp only [hl6_1]); (with_reducible repeat (first | apply Kd.R_alloc | apply Kd.R_drewN | apply Kd.R_drew)); exact HO_6.out⟩, ⟨by (try simp only [hl6_1]); (with_reducible repeat (first | refine blk_drewN ?_ _ | refine blk_drew ?_ | refine blk_alloc ?_ _)); exact BK101.out⟩, ⟨zz0⟩⟩
   rw [if_neg c14] at H; have c14b0 := decide_eq_false c14; (try (have c14b86_1 := c14b0; first | rw [hl6_1] at c14b86_1 | rw [← hl6_1] at c14b86_1)); clear c14; have H' := Aside0.mk H; clear H; go_wp2; (go_loopg [29] k1 (fun kq v29 w' => ∃ (x6_2 : List Int) (x29_2 : Int), v29 = .int .i64 x29_2 ∧ Aside0 (impl_DivisorOfOrient.l1 kq l1 x6_2 (l1.length : Int) x29_2 a0_0 l0_1 = some (r1, r2)) ∧ Aside0 (kq ≤ k1) ∧ Aside0 (Kd.R (Kd.int .i64) 3 w' w.heap.size (fun _ => True) (.slice Ao13 x6_1.length co13) x6_2) ∧ Aside0 (w'.heap[gb101]? = some (.cells #[.int .i64 a0_0, (.slice A0_1 l0_1.length c0_1)] 25 (0, 0))) ∧ Aside0 (Below w.heap.size w w'))); case atStart => exact ⟨(x6_1), (0), zz7, H', ⟨Nat.le_refl _⟩, ⟨by (try simp only [hl6_1]); (with_reducible repeat (first | apply Kd.R_alloc | apply Kd.R_drewN | apply Kd.R_drew)); exact HO_6.out⟩, ⟨by (try simp only [hl6_1]); (with_reducible repeat (first | refine blk_drewN ?_ _ | refine blk_drew ?_ | refine blk_alloc ?_ _)); exact BK101.out⟩, ⟨zz0⟩⟩
   case round =>
    clear H'; (try clear c1); (try clear p1); (try clear q1); (try clear hx1); (try clear p2); (try clear c3); (try clear c4); (try clear c5); (try clear c5b0); (try clear c5b1); (try clear c6); (try clear c6b0); (try clear c6b1); (try clear p6); (try clear c8); (try clear c14); (try clear c14b0); (try clear c15); (try clear c15b0); (try clear c16); (try clear c16b0); (try clear p17); (try clear q17); (try clear hx17); (try clear hf17); (try clear hcz10_0); (try clear hcz10_1); (try clear hcz8_0); (try clear hcz8_1); (try clear hfz10_0); (try clear hfz10_1); (try clear hfz8_0); (try clear hfz8_1); (try clear hx17_0); (try clear p17); (try clear p2); (try clear q17); obtain ⟨x6_2, x29_2, rfl, HA, HK2, HO_6, BK101, HB⟩ := hrel; have hl6_2 := (Kd.R_reads' HO_6.out).1; rw [hl6_2] at HO_6; (try simp only [hl6_2]); (try simp only [hl6_2] at BK101)
    cases gk with
    | zero => exact absurd HA.out (by simp [impl_DivisorOfOrient.l1])
    | succ k2 =>
     have H := HA.out; clear HA; simp only [impl_DivisorOfOrient.l1] at H; by_cases c20 : x29_2 < (l1.length : Int); rotate_left
     ·rw [if_neg c20] at H; have c20b0 := decide_eq_false c20; (try (have c20b86_1 := c20b0; first | rw [hl6_1] at c20b86_1 | rw [← hl6_1] at c20b86_1)); (try (have c20b86_2 := c20b0; first | rw [hl6_2] at c20b86_2 | rw [← hl6_2] at c20b86_2)); clear c20; simp only [Option.some.injEq, Prod.mk.injEq] at H; obtain ⟨rfl, rfl⟩ := H; go_wp2; (go_ret2); exact ⟨_, zz10, by (with_reducible repeat (first | apply Kd.R_alloc | apply Kd.R_drewN | apply Kd.R_drew)); exact HO_6.out, zz0⟩
     rw [if_pos c20] at H; have c20b0 := decide_eq_true c20; (try (have c20b86_1 := c20b0; first | rw [hl6_1] at c20b86_1 | rw [← hl6_1] at c20b86_1)); (try (have c20b86_2 := c20b0; first | rw [hl6_2] at c20b86_2 | rw [← hl6_2] at c20b86_2)); clear c20; replace H := Option.bind_eq_some_iff.mp H; obtain ⟨⟨t107, t108⟩, A210, H⟩ := H; dsimp only at H; have A21 := Aside0.mk A210; clear A210; by_cases c22 : 0 ≤ t108; rotate_left
     ·rw [if_neg c22] at H; exact absurd H (by simp)
     rw [if_pos c22] at H; have c22b0 := decide_eq_true c22; clear c22; by_cases c23 : t108 < (x6_2.length : Int); rotate_left
     ·rw [if_neg c23] at H; exact absurd H (by simp)
     rw [if_pos c23] at H; have c23b0 := decide_eq_true c23; (try (have c23b86_1 := c23b0; first | rw [hl6_1] at c23b86_1 | rw [← hl6_1] at c23b86_1)); (try (have c23b86_2 := c23b0; first | rw [hl6_2] at c23b86_2 | rw [← hl6_2] at c23b86_2)); clear c23; obtain ⟨y110, hy_⟩ : ∃ y_ : List Int, y_ = (x6_2.set (t108 : Int).toNat (wrap64 ((rd x6_2 t108) + 1))) := ⟨_, rfl⟩; (replace H : (impl_DivisorOfOrient.l1 k2 l1 y110 (l1.length : Int) (wrap64 (x29_2 + 1)) a0_0 l0_1) = some (r1, r2) := zzY); have Ny110 := Aside0.mk hy_; clear hy_; have H' := Aside0.mk H; clear H; have hcz25_0 := zC20 BK101; have hcz25_1 := zC21 BK101; have hfz25_0 := blk_frozen BK101.out 0; have hfz25_1 := blk_frozen BK101.out 1; (go_wp2_with (first | ((with_reducible refine gate_callee (f := 81) rfl ?_); refine goesL_ (some 36) rfl rfl Try.func81 (by kernel_rfl) rfl #[.agg #[.int .i64 a0_0, .slice A0_1 l0_1.length c0_1], .slice A1 l1.length c1, .int .i64 x29_2] rfl zz3 ?_; (with_reducible refine (impl_ends.calls a0_0 _ _ l0_1 _ _ l1 x29_2 t107 t108 _ ?side1 ?side2 ?side3 ?side4 A21.out).mono ?_); (case side1 => exact zz5); (case side2 => exact HC0_1.out); (case side3 => exact zz20); (case side4 => exact HC1.out); rintro e w26 ⟨rfl, hb⟩; refine ⟨_, rfl, ?_⟩; have n_ := zA3 (Kd.R_below zz70 hb) (blk_below (g := gb101) (o := .cells #[.int .i64 a0_0, .slice A0_1 l0_1.length c0_1] 25 (0, 0)) zz1 hb) (below_step zz0 hb); clear HO_6 BK101 HB; obtain ⟨HO_6, BK101, HB⟩ := n_; clear hb; have p109 : 0 ≤ (t108 : Int) := of_decide_eq_true zz4; have q109 : t108 < (x6_2.length : Int) := of_decide_eq_true zz4; obtain ⟨ad109, e109, hx109_0⟩ := Kd.at_int (Kd.R_reads' HO_6.out).2.2 t108 p109 q109; cases e109; replace p109 := eq_true p109; replace q109 := eq_true q109; have p24 : 0 ≤ (t108 : Int) := of_decide_eq_true zz4; have q24 : (t108 : Int) < ((x6_2.length : Int) : Int) := of_decide_eq_true zz4; obtain ⟨go24, co24, eo24, gb24, gl24, cl24, HG24⟩ := Kd.R_form HO_6.out (by omega); (first | cases eo24 | (injection eo24 with ea_ en_ ec_; (first | subst ea_ | (injection ea_ with ea_; subst ea_)); subst ec_; clear en_)); have GB24 := Aside0.mk gb24; have GG24 := Aside0.mk HG24; clear gb24 gl24 HG24; (first | simp only [add_plain] at hx109_0 | skip); obtain ⟨hx24_0, hf24_0⟩ := Kd.R_celln 0 HO_6.out (t108 : Int) p24 q24; replace p24 := eq_true p24; replace q24 := eq_true q24; obtain ⟨hy27_, hz27_⟩ := Kd.R_celln 0 HO_6.out (t108 : Int) (of_decide_eq_true zz4) (of_decide_eq_true zz4); have HP27 := Kd.R_putg HO_6.out (t108 : Int) (wrap64 ((rd x6_2 t108) + 1))) | ((with_reducible refine gate_store (t := 3) (p := 44) rfl ?_); refine store_event (t := 3) (p := 44) (v := ?vo_w28) (w1 := (w26.setCell ⟨go24, (t108 : Int).toNat, none⟩ (.int .i64 (wrap64 ((rd x6_2 t108) + 1))))) ?hg ?ho ?hn ?hr ?_; (case ho => rfl); (case hg => rfl); (case hn => rfl); (case hr => exact zz19); intro w28 hw; have hg : w26.grownBy w28 (some go24) := (by rw [hw]; exact HP27.2); have hp_ : Kd.R (Kd.int .i64) 3 w28 w.heap.size (fun _ => True) (.slice (some ⟨go24, 0, none⟩) x6_2.length co13) y110 := (by rw [hw, Ny110.out]; exact HP27.1); clear HP27; have n_ := zA3 hp_ (blk_grown (g := gb101) (o := .cells #[.int .i64 a0_0, .slice A0_1 l0_1.length c0_1] 25 (0, 0)) zz1 hg (Kd.R_ne HO_6.out BK101.out (by decide))) (by rw [hw]; exact below_set (HB.out) GB24.out : Below w.heap.size w w28); clear HO_6 BK101 HB; obtain ⟨HO_6, BK101, HB⟩ := n_; clear hg hw hp_))); (try simp only [← hl6_2]); go_roundg k2; (case measure => have := HK1.out; have := HK2.out; omega); case rel => exact ⟨(y110), (wrap64 (x29_2 + 1)), zz7, H', ⟨by have := HK1.out; have := HK2.out; omega⟩, ⟨by (try simp only [hl6_1]); (try simp only [hl6_2]); (with_reducible repeat (first | apply Kd.R_alloc | apply Kd.R_drewN | apply Kd.R_drew)); exact HO_6.out⟩, ⟨by (try simp only [hl6_1]); (try simp only [hl6_2]); (with_reducible repeat (first | refine blk_drewN ?_ _ | refine blk_drew ?_ | refine blk_alloc ?_ _)); exact BK101.out⟩, ⟨zz0⟩⟩
end Go.Proofs.Ytgobnfeahffnaaa.P
end

section
namespace Go.Proofs.Ytgobnfeahffnaaa.P
open Go.RowKit Go.Proofs.YtgobnfeahffnaaaW.PrintWords Go.Proofs.YtgobnfeahffnaaaW.PrintLast Go.Proofs.YtgobnfeahffnaaaW.PrintMore
attribute [local go_sem] max2_int min2_int max_two min_two max_three min_three max_four min_four
set_option linter.unusedVariables false
set_option linter.unusedSimpArgs false
def impl_ReverseOrient.l0 : Nat → List Int → List Int → Int → Int → Option (List Int)
 | 0, _, _, _, _ => none
 | k + 1, x3, x6, x7, x8 => if x8 < x7 then (if 0 ≤ x8 then (if x8 < (x6.length : Int) then (if (rd x6 x8) = 0 then (if x3.length < 17592186044416 then (impl_ReverseOrient.l0 k (x3 ++ [1]) x6 x7 (wrap64 (x8 + 1))) else (none)) else (if x3.length < 17592186044416 then (impl_ReverseOrient.l0 k (x3 ++ [0]) x6 x7 (wrap64 (x8 + 1))) else (none))) else (none)) else (none)) else (some x3)
def impl_ReverseOrient.f (k : Nat) (l0 : List Int) : Option (List Int) := impl_ReverseOrient.l0 k ([] : List Int) l0 (l0.length : Int) 0
theorem impl_ReverseOrient.mono_l : ∀ k, (∀ y0 y1 y2 y3, LeO (impl_ReverseOrient.l0 k y0 y1 y2 y3) (impl_ReverseOrient.l0 (k + 1) y0 y1 y2 y3))
 | 0 => fun _ _ _ _ r h => by simp [impl_ReverseOrient.l0] at h
 | k + 1 => by
  have ih0 := impl_ReverseOrient.mono_l k
  ·intro y0 y1 y2 y3
   unfold impl_ReverseOrient.l0
   exact zm0
theorem impl_ReverseOrient.mono : ∀ a0 k, LeO (impl_ReverseOrient.f k a0) (impl_ReverseOrient.f (k + 1) a0) := by
 intro a0 k; have ih0 := impl_ReverseOrient.mono_l k; unfold impl_ReverseOrient.f; exact zm0
set_option maxHeartbeats 8000000 in
set_option maxRecDepth 100000 in
theorem impl_ReverseOrient.calls (k : Nat) (A0 : Option Addr) (c0 : Nat) (l0 : List Int) (r : List Int) (w : World) (hr0 : Kd.C (Kd.int .i64) w A0 l0.length l0) (hc0 : l0.length ≤ c0) (h : impl_ReverseOrient.f k l0 = some r) :
  Calls Try.prog 37 #[.slice A0 l0.length c0] w fun e w' => ∃ v0_ : Value, e = .returned (v0_) ∧ Kd.R (Kd.int .i64) 3 w' w.heap.size (fun _ => True) v0_ r ∧ Below w.heap.size w w' := by
 have HR0 := Aside0.mk hr0; have HC0 := Aside0.mk hc0; clear hr0 hc0; have HB := Aside0.mk (Below.refl w.heap.size w); have H : (impl_ReverseOrient.l0 k ([] : List Int) l0 (l0.length : Int) 0) = some r := h; clear h; have H' := Aside0.mk H; clear H; go_enter Try.func37, Try.ntmps37; go_wp2; (go_loopg [3, 8] k (fun kq v3 v8 w' => ∃ (x3_1 : List Int) (x8_1 : Int), v8 = .int .i64 x8_1 ∧ Aside0 (impl_ReverseOrient.l0 kq x3_1 l0 (l0.length : Int) x8_1 = some r) ∧ Aside0 (kq ≤ k) ∧ Aside0 (Kd.R (Kd.int .i64) 3 w' w.heap.size (fun _ => True) v3 x3_1) ∧ Aside0 (Below w.heap.size w w'))); case atStart => exact ⟨(([] : List Int)), (0), zz7, H', ⟨Nat.le_refl _⟩, ⟨zz41⟩, ⟨zz2⟩⟩
 case round =>
  clear H'; obtain ⟨x3_1, x8_1, rfl, HA, HK1, HO_3, HB⟩ := hrel
  cases gk with
  | zero => exact absurd HA.out (by simp [impl_ReverseOrient.l0])
  | succ k1 =>
   have H := HA.out; clear HA; simp only [impl_ReverseOrient.l0] at H; by_cases c2 : x8_1 < (l0.length : Int); rotate_left
   ·rw [if_neg c2] at H; have c2b0 := decide_eq_false c2; clear c2; obtain rfl := Option.some.inj H; go_wp2; go_ret; exact ⟨_, zz10, zz49, zz2⟩
   rw [if_pos c2] at H; have c2b0 := decide_eq_true c2; clear c2; by_cases c3 : 0 ≤ x8_1; rotate_left
   ·rw [if_neg c3] at H; exact absurd H (by simp)
   rw [if_pos c3] at H; have c3b0 := decide_eq_true c3; clear c3; by_cases c4 : x8_1 < (l0.length : Int); rotate_left
   ·rw [if_neg c4] at H; exact absurd H (by simp)
   rw [if_pos c4] at H; have c4b0 := decide_eq_true c4; clear c4; by_cases c5 : (rd l0 x8_1) = 0; rotate_left
   ·rw [if_neg c5] at H; have c5b0 : ((rd l0 x8_1) == 0) = false := beq_eq_false_iff_ne.mpr c5; have c5b1 : ((rd l0 x8_1) != 0) = true := bne_iff_ne.mpr c5; by_cases c8 : x3_1.length < 17592186044416; rotate_left
    ·rw [if_neg c8] at H; exact absurd H (by simp)
    rw [if_pos c8] at H; have LMc8 := Aside0.mk c8; clear c8; obtain ⟨y105, hy_⟩ : ∃ y_ : List Int, y_ = (x3_1 ++ [0]) := ⟨_, rfl⟩; (replace H : (impl_ReverseOrient.l0 k1 y105 l0 (l0.length : Int) (wrap64 (x8_1 + 1))) = some r := zzY); have Ny105 := Aside0.mk hy_; clear hy_; have H' := Aside0.mk H; clear H; have p101 : 0 ≤ (x8_1 : Int) := of_decide_eq_true zz4; have q101 : x8_1 < (l0.length : Int) := of_decide_eq_true zz4; obtain ⟨ad101, e101, hx101_0⟩ := Kd.at_int HR0.out x8_1 p101 q101; cases e101; replace hx101_0 := (HB.out.cell (World.block_lt_of_cell? w _ hx101_0)).trans hx101_0; replace p101 := eq_true p101; replace q101 := eq_true q101; (go_wp2_with (first | ((with_reducible refine gate_builtin (b := .append) (xs := #[.tmp 17, .tmp 18]) rfl ?_); at_builtin; refine Kd.R_append (Kd.int .i64) (w0 := w) w.heap.size rfl (.tmp 17) (.tmp 18) 28 3 (.int .i64 0) 8 rfl Try.underlying28 info3 rfl (by decide) (by omega) u3 x3_1 0 [.int .i64 0] (fun _ => True) (fun _ => False) rfl rfl ?aP (fun _ hk => hk.elim) ?aF ?aO ?aB ?aS ?aL ?_; (case aP => exact rfl); (case aB => exact zz2); (case aF => exact (fun _ _ => trivial)); (case aO => exact zz49); (case aS => exact (below_size zz2)); (case aL => have := LMc8.out; omega); intro v106 w9 ho hb hg hat; rw [← Ny105.out] at ho; have n_ := zA2 hb ho; clear HB HO_3; obtain ⟨HB, HO107⟩ := n_; clear ho hb hg hat))); go_roundg k1; (case measure => have := HK1.out; omega); case rel => exact ⟨(y105), (wrap64 (x8_1 + 1)), zz7, H', ⟨zz98⟩, ⟨by (with_reducible repeat (first | apply Kd.R_alloc | apply Kd.R_drewN | apply Kd.R_drew)); exact HO107.out⟩, ⟨zz2⟩⟩
   rw [if_pos c5] at H; have c5b0 : ((rd l0 x8_1) == 0) = true := beq_iff_eq.mpr c5; have c5b1 : ((rd l0 x8_1) != 0) = false := bne_eq_false_iff_eq.mpr c5; clear c5; by_cases c6 : x3_1.length < 17592186044416; rotate_left
   ·rw [if_neg c6] at H; exact absurd H (by simp)
   rw [if_pos c6] at H; have LMc6 := Aside0.mk c6; clear c6; obtain ⟨y102, hy_⟩ : ∃ y_ : List Int, y_ = (x3_1 ++ [1]) := ⟨_, rfl⟩; (replace H : (impl_ReverseOrient.l0 k1 y102 l0 (l0.length : Int) (wrap64 (x8_1 + 1))) = some r := zzY); have Ny102 := Aside0.mk hy_; clear hy_; have H' := Aside0.mk H; clear H; have p101 : 0 ≤ (x8_1 : Int) := of_decide_eq_true zz4; have q101 : x8_1 < (l0.length : Int) := of_decide_eq_true zz4; obtain ⟨ad101, e101, hx101_0⟩ := Kd.at_int HR0.out x8_1 p101 q101; cases e101; replace hx101_0 := (HB.out.cell (World.block_lt_of_cell? w _ hx101_0)).trans hx101_0; replace p101 := eq_true p101; replace q101 := eq_true q101; (go_wp2_with (first | ((with_reducible refine gate_builtin (b := .append) (xs := #[.tmp 14, .tmp 15]) rfl ?_); at_builtin; refine Kd.R_append (Kd.int .i64) (w0 := w) w.heap.size rfl (.tmp 14) (.tmp 15) 28 3 (.int .i64 0) 8 rfl Try.underlying28 info3 rfl (by decide) (by omega) u3 x3_1 1 [.int .i64 1] (fun _ => True) (fun _ => False) rfl rfl ?aP (fun _ hk => hk.elim) ?aF ?aO ?aB ?aS ?aL ?_; (case aP => exact rfl); (case aB => exact zz2); (case aF => exact (fun _ _ => trivial)); (case aO => exact zz49); (case aS => exact (below_size zz2)); (case aL => have := LMc6.out; omega); intro v103 w7 ho hb hg hat; rw [← Ny102.out] at ho; have n_ := zA2 hb ho; clear HB HO_3; obtain ⟨HB, HO104⟩ := n_; clear ho hb hg hat))); go_roundg k1; (case measure => have := HK1.out; omega); case rel => exact ⟨(y102), (wrap64 (x8_1 + 1)), zz7, H', ⟨zz98⟩, ⟨zz25⟩, ⟨zz2⟩⟩
def impl_GenusOf.f (a0_0 : Int) (l0_1 : List (S83)) : Option (Int) := (impl_GraphOk.f a0_0 l0_1).bind fun t102 => (if t102 = true then (some (wrap64 ((wrap64 ((l0_1.length : Int) - a0_0)) + 1))) else (some (-1)))
set_option maxHeartbeats 8000000 in
set_option maxRecDepth 100000 in
theorem impl_GenusOf.calls (a0_0 : Int) (A0_1 : Option Addr) (c0_1 : Nat) (l0_1 : List (S83)) (r : Int) (w : World) (hr0_1 : Kd.C k83 w A0_1 l0_1.length l0_1) (hc0_1 : l0_1.length ≤ c0_1) (h : impl_GenusOf.f a0_0 l0_1 = some r) :
  Calls Try.prog 38 #[.agg #[.int .i64 a0_0, .slice A0_1 l0_1.length c0_1]] w fun e w' => e = .returned (.int .i64 r) ∧ Below w.heap.size w w' := by
 have hu25 := Try.underlying25; have HR0_1 := Aside0.mk hr0_1; have HC0_1 := Aside0.mk hc0_1; clear hr0_1 hc0_1; have HB := Aside0.mk (Below.refl w.heap.size w); have H : ((impl_GraphOk.f a0_0 l0_1).bind fun t102 => (if t102 = true then (some (wrap64 ((wrap64 ((l0_1.length : Int) - a0_0)) + 1))) else (some (-1)))) = some r := h; clear h; replace H := Option.bind_eq_some_iff.mp H; obtain ⟨t102, A20, H⟩ := H; (try dsimp only at H); have A2 := Aside0.mk A20; clear A20; by_cases c3 : t102 = true
 ·subst c3; rw [if_pos rfl] at H; obtain rfl := Option.some.inj H; go_enter Try.func38, Try.ntmps38; (go_wp2_with (first | ((with_reducible refine gate_dst (N := 1) rfl ?_); refine box_event ?hg (N := 1) ?hd (cs := #[.int .i64 a0_0, .slice A0_1 l0_1.length c0_1]) (t := 25) ?hr ?_; (case hd => rfl); (case hg => rfl); (case hr => exact zz19); intro gb101 hg w4 hbox hb; have n_ := zA4 (below_step zz2 hb) hbox (zz15 : w.heap.size ≤ gb101) (zz15 : w.heap.size ≤ gb101); clear HB; obtain ⟨HB, BK101, GW101, GE101⟩ := n_; clear hb hbox hg; have hcz5_0 := zC20 BK101; have hcz5_1 := zC21 BK101; have hfz5_0 := blk_frozen BK101.out 0; have hfz5_1 := blk_frozen BK101.out 1) | ((with_reducible refine gate_callee (f := 82) rfl ?_); refine goesL_ (some 4) rfl rfl Try.func82 (by kernel_rfl) rfl #[.agg #[.int .i64 a0_0, .slice A0_1 l0_1.length c0_1]] rfl zz3 ?_; (with_reducible refine (impl_GraphOk.calls a0_0 _ _ l0_1 true _ ?side1 ?side2 A2.out).mono ?_); (case side1 => exact zz5); (case side2 => exact HC0_1.out); rintro e w6 ⟨rfl, hb⟩; refine ⟨_, rfl, ?_⟩; have n_ := zA2 (blk_below (g := gb101) (o := .cells #[.int .i64 a0_0, .slice A0_1 l0_1.length c0_1] 25 (0, 0)) zz1 hb) (below_step zz0 hb); clear BK101 HB; obtain ⟨BK101, HB⟩ := n_; clear hb; have hcz7_0 := zC20 BK101; have hcz7_1 := zC21 BK101; have hfz7_0 := blk_frozen BK101.out 0; have hfz7_1 := blk_frozen BK101.out 1))); go_ret; exact ⟨zz10, zz0⟩
 replace c3 := Bool.eq_false_iff.mpr c3; subst c3; rw [if_neg (show ¬ (false = true) by decide)] at H; obtain rfl := Option.some.inj H; go_enter Try.func38, Try.ntmps38; (go_wp2_with (first | ((with_reducible refine gate_dst (N := 1) rfl ?_); refine box_event ?hg (N := 1) ?hd (cs := #[.int .i64 a0_0, .slice A0_1 l0_1.length c0_1]) (t := 25) ?hr ?_; (case hd => rfl); (case hg => rfl); (case hr => exact zz19); intro gb101 hg w8 hbox hb; have n_ := zA4 (below_step zz2 hb) hbox (zz15 : w.heap.size ≤ gb101) (zz15 : w.heap.size ≤ gb101); clear HB; obtain ⟨HB, BK101, GW101, GE101⟩ := n_; clear hb hbox hg; have hcz9_0 := zC20 BK101; have hcz9_1 := zC21 BK101; have hfz9_0 := blk_frozen BK101.out 0; have hfz9_1 := blk_frozen BK101.out 1) | ((with_reducible refine gate_callee (f := 82) rfl ?_); refine goesL_ (some 4) rfl rfl Try.func82 (by kernel_rfl) rfl #[.agg #[.int .i64 a0_0, .slice A0_1 l0_1.length c0_1]] rfl zz3 ?_; (with_reducible refine (impl_GraphOk.calls a0_0 _ _ l0_1 false _ ?side1 ?side2 A2.out).mono ?_); (case side1 => exact zz5); (case side2 => exact HC0_1.out); rintro e w10 ⟨rfl, hb⟩; refine ⟨_, rfl, ?_⟩; have n_ := zA2 (blk_below (g := gb101) (o := .cells #[.int .i64 a0_0, .slice A0_1 l0_1.length c0_1] 25 (0, 0)) zz1 hb) (below_step zz0 hb); clear BK101 HB; obtain ⟨BK101, HB⟩ := n_; clear hb))); go_ret; exact ⟨zz10, zz0⟩
mutual
def impl_IsAcyclic.l0 : Nat → List Int → Int → Int → Int → Int → List (S83) → Option (Bool)
 | 0, _, _, _, _, _, _ => none
 | k + 1, x1, x5, x19, x20, x102000, x102001 => if x20 < x19 then (impl_IsAcyclic.l1 k x1 x5 0 x19 x20 (x1.length : Int) 0 x102000 x102001) else (some (x5 == 0))
def impl_IsAcyclic.l1 : Nat → List Int → Int → Int → Int → Int → Int → Int → Int → List (S83) → Option (Bool)
 | 0, _, _, _, _, _, _, _, _, _ => none
 | k + 1, x1, x5, x6, x19, x20, x23, x24, x102000, x102001 => if x24 < x23 then ((impl_ends.f x102000 x102001 x1 x24).bind fun bt103 => (if 0 ≤ bt103.1 then (if (Go.bits .and .i64 (shr .i64 x5 bt103.1) 1) = 1 then (if 0 ≤ bt103.2 then (impl_IsAcyclic.l1 k x1 x5 (Go.bits .or .i64 x6 (shl .i64 1 bt103.2)) x19 x20 x23 (wrap64 (x24 + 1)) x102000 x102001) else (none)) else (impl_IsAcyclic.l1 k x1 x5 x6 x19 x20 x23 (wrap64 (x24 + 1)) x102000 x102001)) else (none))) else (impl_IsAcyclic.l0 k x1 (Go.bits .and .i64 x5 x6) x19 (wrap64 (x20 + 1)) x102000 x102001)
end
def impl_IsAcyclic.f (k : Nat) (a0_0 : Int) (l0_1 : List (S83)) (l1 : List Int) : Option (Bool) := (impl_OrientOk.f k a0_0 l0_1 l1).bind fun t102 => (if t102 = true then (if 0 ≤ a0_0 then (impl_IsAcyclic.l0 k l1 (wrap64 ((shl .i64 1 a0_0) - 1)) a0_0 0 a0_0 l0_1) else (none)) else (some false))
theorem impl_IsAcyclic.mono_l : ∀ k, (∀ y0 y1 y2 y3 y4 y5, LeO (impl_IsAcyclic.l0 k y0 y1 y2 y3 y4 y5) (impl_IsAcyclic.l0 (k + 1) y0 y1 y2 y3 y4 y5)) ∧ (∀ y0 y1 y2 y3 y4 y5 y6 y7 y8, LeO (impl_IsAcyclic.l1 k y0 y1 y2 y3 y4 y5 y6 y7 y8) (impl_IsAcyclic.l1 (k + 1) y0 y1 y2 y3 y4 y5 y6 y7 y8))
 | 0 => ⟨fun _ _ _ _ _ _ r h => by simp [impl_IsAcyclic.l0] at h, fun _ _ _ _ _ _ _ _ _ r h => by simp [impl_IsAcyclic.l1] at h⟩
 | k + 1 => by
  obtain ⟨ih0, ih1⟩ := impl_IsAcyclic.mono_l k
  refine ⟨?_, ?_⟩
  ·intro y0 y1 y2 y3 y4 y5
   unfold impl_IsAcyclic.l0
   exact zm7
  ·intro y0 y1 y2 y3 y4 y5 y6 y7 y8
   unfold impl_IsAcyclic.l1
   exact zm7
theorem impl_IsAcyclic.mono : ∀ a0 a1 a2 k, LeO (impl_IsAcyclic.f k a0 a1 a2) (impl_IsAcyclic.f (k + 1) a0 a1 a2) := by
 intro a0 a1 a2 k; obtain ⟨ih0, ih1⟩ := impl_IsAcyclic.mono_l k; unfold impl_IsAcyclic.f; exact zm7
set_option maxHeartbeats 8000000 in
set_option maxRecDepth 100000 in
theorem impl_IsAcyclic.calls (k : Nat) (a0_0 : Int) (A0_1 : Option Addr) (c0_1 : Nat) (l0_1 : List (S83)) (A1 : Option Addr) (c1 : Nat) (l1 : List Int) (r : Bool) (w : World) (hr0_1 : Kd.C k83 w A0_1 l0_1.length l0_1) (hc0_1 : l0_1.length ≤ c0_1) (hr1 : Kd.C (Kd.int .i64) w A1 l1.length l1) (hc1 : l1.length ≤ c1) (h : impl_IsAcyclic.f k a0_0 l0_1 l1 = some r) :
  Calls Try.prog 39 #[.agg #[.int .i64 a0_0, .slice A0_1 l0_1.length c0_1], .slice A1 l1.length c1] w fun e w' => e = .returned (.bool r) ∧ Below w.heap.size w w' := by
 have hu25 := Try.underlying25; have HR0_1 := Aside0.mk hr0_1; have HC0_1 := Aside0.mk hc0_1; clear hr0_1 hc0_1; have HR1 := Aside0.mk hr1; have HC1 := Aside0.mk hc1; clear hr1 hc1; have HB := Aside0.mk (Below.refl w.heap.size w); have H : ((impl_OrientOk.f k a0_0 l0_1 l1).bind fun t102 => (if t102 = true then (if 0 ≤ a0_0 then (impl_IsAcyclic.l0 k l1 (wrap64 ((shl .i64 1 a0_0) - 1)) a0_0 0 a0_0 l0_1) else (none)) else (some false))) = some r := h; clear h; replace H := Option.bind_eq_some_iff.mp H; obtain ⟨t102, A30, H⟩ := H; (try dsimp only at H); have A3 := Aside0.mk A30; clear A30; by_cases c4 : t102 = true; rotate_left
 ·replace c4 := Bool.eq_false_iff.mpr c4; subst c4; rw [if_neg (show ¬ (false = true) by decide)] at H; obtain rfl := Option.some.inj H; go_enter Try.func39, Try.ntmps39; (go_wp2_with (first | ((with_reducible refine gate_dst (N := 2) rfl ?_); refine box_event ?hg (N := 2) ?hd (cs := #[.int .i64 a0_0, .slice A0_1 l0_1.length c0_1]) (t := 25) ?hr ?_; (case hd => rfl); (case hg => rfl); (case hr => exact zz19); intro gb101 hg w23 hbox hb; have n_ := zA4 (below_step zz2 hb) hbox (zz15 : w.heap.size ≤ gb101) (zz15 : w.heap.size ≤ gb101); clear HB; obtain ⟨HB, BK101, GW101, GE101⟩ := n_; clear hb hbox hg; have hcz24_0 := zC20 BK101; have hcz24_1 := zC21 BK101; have hfz24_0 := blk_frozen BK101.out 0; have hfz24_1 := blk_frozen BK101.out 1) | ((with_reducible refine gate_callee (f := 80) rfl ?_); refine goesL_ (some 12) rfl rfl Try.func80 (by kernel_rfl) rfl #[.agg #[.int .i64 a0_0, .slice A0_1 l0_1.length c0_1], .slice A1 l1.length c1] rfl zz3 ?_; (with_reducible refine (impl_OrientOk.calls k a0_0 _ _ l0_1 _ _ l1 false _ ?side1 ?side2 ?side3 ?side4 A3.out).mono ?_); (case side1 => exact zz5); (case side2 => exact HC0_1.out); (case side3 => exact zz20); (case side4 => exact HC1.out); rintro e w25 ⟨rfl, hb⟩; refine ⟨_, rfl, ?_⟩; have n_ := zA2 (blk_below (g := gb101) (o := .cells #[.int .i64 a0_0, .slice A0_1 l0_1.length c0_1] 25 (0, 0)) zz1 hb) (below_step zz0 hb); clear BK101 HB; obtain ⟨BK101, HB⟩ := n_; clear hb))); go_ret; exact ⟨zz10, zz0⟩
 subst c4; rw [if_pos rfl] at H; by_cases c5 : 0 ≤ a0_0; rotate_left
 ·rw [if_neg c5] at H; exact absurd H (by simp)
 rw [if_pos c5] at H; have c5b0 := eq_true c5; have c5b1 : decide (0 ≤ a0_0) = true := decide_eq_true c5; clear c5; obtain ⟨ji6, hji6⟩ : ∃ j_ : Int, (shl .i64 1 a0_0) = j_ := ⟨_, rfl⟩; (replace H : (impl_IsAcyclic.l0 k l1 (wrap64 ((ji6) - 1)) a0_0 0 a0_0 l0_1) = some r := by first | (rw [hji6] at H; exact H) | (simp only [hji6] at H ⊢; exact H)); (try rw [hji6] at A3); have hji6_ : (IntKind.i64.wrap (1 * 2 ^ min a0_0.toNat 64)) = ji6 := hji6; have hji6z : a0_0 ≤ 64 → (IntKind.i64.wrap (1 * 2 ^ a0_0.toNat)) = ji6 := shl_small hji6; (have hji6u : (IntKind.i64.wrap (2 ^ min a0_0.toNat 64)) = ji6 := by have h_ := hji6_; rw [Int.one_mul] at h_; exact h_); (have hji6v : a0_0 ≤ 64 → (IntKind.i64.wrap (2 ^ a0_0.toNat)) = ji6 := fun hle_ => by have h_ := hji6z hle_; rw [Int.one_mul] at h_; exact h_); have hji6y : (wrap64 (1 * 2 ^ min a0_0.toNat 64)) = ji6 := (i64_w _).symm.trans hji6_; (have hji6x : a0_0 ≤ 64 → (wrap64 (1 * 2 ^ a0_0.toNat)) = ji6 := fun h_ => (i64_w _).symm.trans (hji6z h_)); have H' := Aside0.mk H; clear H; go_enter Try.func39, Try.ntmps39; (go_wp2_with (first | ((with_reducible refine gate_dst (N := 2) rfl ?_); refine box_event ?hg (N := 2) ?hd (cs := #[.int .i64 a0_0, .slice A0_1 l0_1.length c0_1]) (t := 25) ?hr ?_; (case hd => rfl); (case hg => rfl); (case hr => exact zz19); intro gb101 hg w7 hbox hb; have n_ := zA4 (below_step zz2 hb) hbox (zz15 : w.heap.size ≤ gb101) (zz15 : w.heap.size ≤ gb101); clear HB; obtain ⟨HB, BK101, GW101, GE101⟩ := n_; clear hb hbox hg; have hcz8_0 := zC20 BK101; have hcz8_1 := zC21 BK101; have hfz8_0 := blk_frozen BK101.out 0; have hfz8_1 := blk_frozen BK101.out 1) | ((with_reducible refine gate_callee (f := 80) rfl ?_); refine goesL_ (some 12) rfl rfl Try.func80 (by kernel_rfl) rfl #[.agg #[.int .i64 a0_0, .slice A0_1 l0_1.length c0_1], .slice A1 l1.length c1] rfl zz3 ?_; (with_reducible refine (impl_OrientOk.calls k a0_0 _ _ l0_1 _ _ l1 true _ ?side1 ?side2 ?side3 ?side4 A3.out).mono ?_); (case side1 => exact zz5); (case side2 => exact HC0_1.out); (case side3 => exact zz20); (case side4 => exact HC1.out); rintro e w9 ⟨rfl, hb⟩; refine ⟨_, rfl, ?_⟩; have n_ := zA2 (blk_below (g := gb101) (o := .cells #[.int .i64 a0_0, .slice A0_1 l0_1.length c0_1] 25 (0, 0)) zz1 hb) (below_step zz0 hb); clear BK101 HB; obtain ⟨BK101, HB⟩ := n_; clear hb; have hcz10_0 := zC20 BK101; have hcz10_1 := zC21 BK101; have hfz10_0 := blk_frozen BK101.out 0; have hfz10_1 := blk_frozen BK101.out 1))); (go_loopg [5, 20] k (fun kq v5 v20 w' => ∃ (x5_1 : Int) (x20_1 : Int), v5 = .int .i64 x5_1 ∧ v20 = .int .i64 x20_1 ∧ Aside0 (impl_IsAcyclic.l0 kq l1 x5_1 a0_0 x20_1 a0_0 l0_1 = some r) ∧ Aside0 (kq ≤ k) ∧ Aside0 (w'.heap[gb101]? = some (.cells #[.int .i64 a0_0, (.slice A0_1 l0_1.length c0_1)] 25 (0, 0))) ∧ Aside0 (Below w.heap.size w w'))); case atStart => exact ⟨(wrap64 ((ji6) - 1)), (0), (by first | rfl | (simp; done) | (simp only [← hji6] <;> (first | rfl | simp)) | (simp [*]; done)), zz7, H', ⟨Nat.le_refl _⟩, ⟨zz1⟩, ⟨zz0⟩⟩
 case round =>
  clear H'; (try clear c1); (try clear p2); (try clear c3); (try clear c4); (try clear c5); (try clear c5b0); (try clear c5b1); (try clear p6); (try clear c8); (try clear hcz10_0); (try clear hcz10_1); (try clear hcz8_0); (try clear hcz8_1); (try clear hfz10_0); (try clear hfz10_1); (try clear hfz8_0); (try clear hfz8_1); obtain ⟨x5_1, x20_1, rfl, rfl, HA, HK1, BK101, HB⟩ := hrel
  cases gk with
  | zero => exact absurd HA.out (by simp [impl_IsAcyclic.l0])
  | succ k1 =>
   have H := HA.out; clear HA; simp only [impl_IsAcyclic.l0] at H; by_cases c11 : x20_1 < a0_0; rotate_left
   ·rw [if_neg c11] at H; have c11b0 := decide_eq_false c11; clear c11; obtain rfl := Option.some.inj H; go_wp2; go_ret; exact ⟨by first | rfl | (simp [errW_none, errW_some] <;> rfl) | (simp only [← hji6]; first | rfl | (simp [errW_none, errW_some] <;> rfl)) | (simp [*, errW_none, errW_some] <;> rfl), zz0⟩
   rw [if_pos c11] at H; have c11b0 := decide_eq_true c11; clear c11; have H' := Aside0.mk H; clear H; go_wp2; (go_loopg [6, 24] k1 (fun kq v6 v24 w' => ∃ (x6_2 : Int) (x24_2 : Int), v6 = .int .i64 x6_2 ∧ v24 = .int .i64 x24_2 ∧ Aside0 (impl_IsAcyclic.l1 kq l1 x5_1 x6_2 a0_0 x20_1 (l1.length : Int) x24_2 a0_0 l0_1 = some r) ∧ Aside0 (kq ≤ k1) ∧ Aside0 (w'.heap[gb101]? = some (.cells #[.int .i64 a0_0, (.slice A0_1 l0_1.length c0_1)] 25 (0, 0))) ∧ Aside0 (Below w.heap.size w w'))); case atStart => exact ⟨(0), (0), zz7, zz7, H', ⟨Nat.le_refl _⟩, ⟨zz1⟩, ⟨zz0⟩⟩
   case round =>
    clear H'; (try clear c1); (try clear p2); (try clear c3); (try clear c4); (try clear c5); (try clear c5b0); (try clear c5b1); (try clear p6); (try clear c8); (try clear c11); (try clear c11b0); (try clear hcz10_0); (try clear hcz10_1); (try clear hcz8_0); (try clear hcz8_1); (try clear hfz10_0); (try clear hfz10_1); (try clear hfz8_0); (try clear hfz8_1); (try clear p2); (try clear p6); obtain ⟨x6_2, x24_2, rfl, rfl, HA, HK2, BK101, HB⟩ := hrel
    cases gk with
    | zero => exact absurd HA.out (by simp [impl_IsAcyclic.l1])
    | succ k2 =>
     have H := HA.out; clear HA; simp only [impl_IsAcyclic.l1] at H; by_cases c12 : x24_2 < (l1.length : Int); rotate_left
     ·rw [if_neg c12] at H; have c12b0 := decide_eq_false c12; clear c12; have H' := Aside0.mk H; clear H; go_wp2; go_roundg k2; (case measure => have := HK1.out; have := HK2.out; omega); case rel => exact ⟨(Go.bits .and .i64 x5_1 x6_2), (wrap64 (x20_1 + 1)), zz7, zz7, H', ⟨by have := HK1.out; have := HK2.out; omega⟩, ⟨zz1⟩, ⟨zz0⟩⟩
     rw [if_pos c12] at H; have c12b0 := decide_eq_true c12; clear c12; replace H := Option.bind_eq_some_iff.mp H; obtain ⟨⟨t103, t104⟩, A130, H⟩ := H; dsimp only at H; have A13 := Aside0.mk A130; clear A130; by_cases c14 : 0 ≤ t103; rotate_left
     ·rw [if_neg c14] at H; exact absurd H (by simp)
     rw [if_pos c14] at H; have c14b0 := eq_true c14; have c14b1 : decide (0 ≤ t103) = true := decide_eq_true c14; clear c14; obtain ⟨ji15, hji15⟩ : ∃ j_ : Int, (shr .i64 x5_1 t103) = j_ := ⟨_, rfl⟩; (replace H : (if (Go.bits .and .i64 (ji15) 1) = 1 then (if 0 ≤ t104 then (impl_IsAcyclic.l1 k2 l1 x5_1 (Go.bits .or .i64 x6_2 (shl .i64 1 t104)) a0_0 x20_1 (l1.length : Int) (wrap64 (x24_2 + 1)) a0_0 l0_1) else (none)) else (impl_IsAcyclic.l1 k2 l1 x5_1 x6_2 a0_0 x20_1 (l1.length : Int) (wrap64 (x24_2 + 1)) a0_0 l0_1)) = some r := by first | (rw [hji15] at H; exact H) | (simp only [hji15] at H ⊢; exact H)); (try rw [hji15] at A13); have hji15_ : (x5_1 / 2 ^ min t103.toNat 64) = ji15 := hji15; have hji15z : t103 ≤ 64 → (x5_1 / 2 ^ t103.toNat) = ji15 := shr_small hji15; by_cases c16 : (Go.bits .and .i64 (ji15) 1) = 1; rotate_left
     ·rw [if_neg c16] at H; have c16b0 : ((Go.bits .and .i64 (ji15) 1) == 1) = false := beq_eq_false_iff_ne.mpr c16; have c16b1 : ((Go.bits .and .i64 (ji15) 1) != 1) = true := bne_iff_ne.mpr c16; have H' := Aside0.mk H; clear H; have hcz21_0 := zC20 BK101; have hcz21_1 := zC21 BK101; have hfz21_0 := blk_frozen BK101.out 0; have hfz21_1 := blk_frozen BK101.out 1; (go_wp2_with (first | ((with_reducible refine gate_callee (f := 81) rfl ?_); refine goesL_ (some 31) rfl rfl Try.func81 (by kernel_rfl) rfl #[.agg #[.int .i64 a0_0, .slice A0_1 l0_1.length c0_1], .slice A1 l1.length c1, .int .i64 x24_2] rfl zz3 ?_; (with_reducible refine (impl_ends.calls a0_0 _ _ l0_1 _ _ l1 x24_2 t103 t104 _ ?side1 ?side2 ?side3 ?side4 A13.out).mono ?_); (case side1 => exact zz5); (case side2 => exact HC0_1.out); (case side3 => exact zz20); (case side4 => exact HC1.out); rintro e w22 ⟨rfl, hb⟩; refine ⟨_, rfl, ?_⟩; have n_ := zA2 (blk_below (g := gb101) (o := .cells #[.int .i64 a0_0, .slice A0_1 l0_1.length c0_1] 25 (0, 0)) zz1 hb) (below_step zz0 hb); clear BK101 HB; obtain ⟨BK101, HB⟩ := n_; clear hb))); go_roundg k2; (case measure => have := HK1.out; have := HK2.out; omega); case rel => exact ⟨(x6_2), (wrap64 (x24_2 + 1)), zz7, zz7, H', ⟨by have := HK1.out; have := HK2.out; omega⟩, ⟨zz1⟩, ⟨zz0⟩⟩
     rw [if_pos c16] at H; have c16b0 : ((Go.bits .and .i64 (ji15) 1) == 1) = true := beq_iff_eq.mpr c16; have c16b1 : ((Go.bits .and .i64 (ji15) 1) != 1) = false := bne_eq_false_iff_eq.mpr c16; clear c16; by_cases c17 : 0 ≤ t104; rotate_left
     ·rw [if_neg c17] at H; exact absurd H (by simp)
     rw [if_pos c17] at H; have c17b0 := eq_true c17; have c17b1 : decide (0 ≤ t104) = true := decide_eq_true c17; clear c17; obtain ⟨ji18, hji18⟩ : ∃ j_ : Int, (shl .i64 1 t104) = j_ := ⟨_, rfl⟩; (replace H : (impl_IsAcyclic.l1 k2 l1 x5_1 (Go.bits .or .i64 x6_2 (ji18)) a0_0 x20_1 (l1.length : Int) (wrap64 (x24_2 + 1)) a0_0 l0_1) = some r := by first | (rw [hji18] at H; exact H) | (simp only [hji18] at H ⊢; exact H)); (try rw [hji18] at A13); have hji18_ : (IntKind.i64.wrap (1 * 2 ^ min t104.toNat 64)) = ji18 := hji18; have hji18z : t104 ≤ 64 → (IntKind.i64.wrap (1 * 2 ^ t104.toNat)) = ji18 := shl_small hji18; (have hji18u : (IntKind.i64.wrap (2 ^ min t104.toNat 64)) = ji18 := by have h_ := hji18_; rw [Int.one_mul] at h_; exact h_); (have hji18v : t104 ≤ 64 → (IntKind.i64.wrap (2 ^ t104.toNat)) = ji18 := fun hle_ => by have h_ := hji18z hle_; rw [Int.one_mul] at h_; exact h_); have hji18y : (wrap64 (1 * 2 ^ min t104.toNat 64)) = ji18 := (i64_w _).symm.trans hji18_; (have hji18x : t104 ≤ 64 → (wrap64 (1 * 2 ^ t104.toNat)) = ji18 := fun h_ => (i64_w _).symm.trans (hji18z h_)); have H' := Aside0.mk H; clear H; have hcz19_0 := zC20 BK101; have hcz19_1 := zC21 BK101; have hfz19_0 := blk_frozen BK101.out 0; have hfz19_1 := blk_frozen BK101.out 1; (go_wp2_with (first | ((with_reducible refine gate_callee (f := 81) rfl ?_); refine goesL_ (some 31) rfl rfl Try.func81 (by kernel_rfl) rfl #[.agg #[.int .i64 a0_0, .slice A0_1 l0_1.length c0_1], .slice A1 l1.length c1, .int .i64 x24_2] rfl zz3 ?_; (with_reducible refine (impl_ends.calls a0_0 _ _ l0_1 _ _ l1 x24_2 t103 t104 _ ?side1 ?side2 ?side3 ?side4 A13.out).mono ?_); (case side1 => exact zz5); (case side2 => exact HC0_1.out); (case side3 => exact zz20); (case side4 => exact HC1.out); rintro e w20 ⟨rfl, hb⟩; refine ⟨_, rfl, ?_⟩; have n_ := zA2 (blk_below (g := gb101) (o := .cells #[.int .i64 a0_0, .slice A0_1 l0_1.length c0_1] 25 (0, 0)) zz1 hb) (below_step zz0 hb); clear BK101 HB; obtain ⟨BK101, HB⟩ := n_; clear hb))); go_roundg k2; (case measure => have := HK1.out; have := HK2.out; omega); case rel => exact ⟨(Go.bits .or .i64 x6_2 (ji18)), (wrap64 (x24_2 + 1)), (by first | rfl | (simp; done) | (simp only [← hji18] <;> (first | rfl | simp)) | (simp [*]; done)), zz7, H', ⟨by have := HK1.out; have := HK2.out; omega⟩, ⟨zz1⟩, ⟨zz0⟩⟩
end Go.Proofs.Ytgobnfeahffnaaa.P
end

section
namespace Go.Proofs.Ytgobnfeahffnaaa.P
open Go.RowKit Go.Proofs.YtgobnfeahffnaaaW.PrintWords Go.Proofs.YtgobnfeahffnaaaW.PrintLast Go.Proofs.YtgobnfeahffnaaaW.PrintMore
attribute [local go_sem] max2_int min2_int max_two min_two max_three min_three max_four min_four
set_option linter.unusedVariables false
set_option linter.unusedSimpArgs false
def impl_SourcesOf.l0 : Nat → List Int → List Int → Int → Int → Option (List Int)
 | 0, _, _, _, _ => none
 | k + 1, x7, x18, x19, x20 => if x20 < x19 then (if 0 ≤ x20 then (if x20 < (x18.length : Int) then (if (rd x18 x20) = (-1) then (if x7.length < 17592186044416 then (impl_SourcesOf.l0 k (x7 ++ [x20]) x18 x19 (wrap64 (x20 + 1))) else (none)) else (impl_SourcesOf.l0 k x7 x18 x19 (wrap64 (x20 + 1)))) else (none)) else (none)) else (some x7)
def impl_SourcesOf.f (k : Nat) (a0_0 : Int) (l0_1 : List (S83)) (l1 : List Int) : Option (List Int) := (impl_DivisorOfOrient.f k a0_0 l0_1 l1).bind fun bt102 => (if bt102.2 = true then (impl_SourcesOf.l0 k ([] : List Int) bt102.1 (bt102.1.length : Int) 0) else (some ([] : List Int)))
theorem impl_SourcesOf.mono_l : ∀ k, (∀ y0 y1 y2 y3, LeO (impl_SourcesOf.l0 k y0 y1 y2 y3) (impl_SourcesOf.l0 (k + 1) y0 y1 y2 y3))
 | 0 => fun _ _ _ _ r h => by simp [impl_SourcesOf.l0] at h
 | k + 1 => by
  have ih0 := impl_SourcesOf.mono_l k
  ·intro y0 y1 y2 y3
   unfold impl_SourcesOf.l0
   exact zm22
theorem impl_SourcesOf.mono : ∀ a0 a1 a2 k, LeO (impl_SourcesOf.f k a0 a1 a2) (impl_SourcesOf.f (k + 1) a0 a1 a2) := by
 intro a0 a1 a2 k; have ih0 := impl_SourcesOf.mono_l k; unfold impl_SourcesOf.f; exact zm22
set_option maxHeartbeats 8000000 in
set_option maxRecDepth 100000 in
theorem impl_SourcesOf.calls (k : Nat) (a0_0 : Int) (A0_1 : Option Addr) (c0_1 : Nat) (l0_1 : List (S83)) (A1 : Option Addr) (c1 : Nat) (l1 : List Int) (r : List Int) (w : World) (hr0_1 : Kd.C k83 w A0_1 l0_1.length l0_1) (hc0_1 : l0_1.length ≤ c0_1) (hr1 : Kd.C (Kd.int .i64) w A1 l1.length l1) (hc1 : l1.length ≤ c1) (h : impl_SourcesOf.f k a0_0 l0_1 l1 = some r) :
  Calls Try.prog 40 #[.agg #[.int .i64 a0_0, .slice A0_1 l0_1.length c0_1], .slice A1 l1.length c1] w fun e w' => ∃ v0_ : Value, e = .returned (v0_) ∧ Kd.R (Kd.int .i64) 3 w' w.heap.size (fun _ => True) v0_ r ∧ Below w.heap.size w w' := by
 have hu25 := Try.underlying25; have HR0_1 := Aside0.mk hr0_1; have HC0_1 := Aside0.mk hc0_1; clear hr0_1 hc0_1; have HR1 := Aside0.mk hr1; have HC1 := Aside0.mk hc1; clear hr1 hc1; have HB := Aside0.mk (Below.refl w.heap.size w); have H : ((impl_DivisorOfOrient.f k a0_0 l0_1 l1).bind fun bt102 => (if bt102.2 = true then (impl_SourcesOf.l0 k ([] : List Int) bt102.1 (bt102.1.length : Int) 0) else (some ([] : List Int)))) = some r := h; clear h; replace H := Option.bind_eq_some_iff.mp H; obtain ⟨⟨t102, t105⟩, A30, H⟩ := H; dsimp only at H; have A3 := Aside0.mk A30; clear A30; by_cases c4 : t105 = true; rotate_left
 ·replace c4 := Bool.eq_false_iff.mpr c4; subst c4; rw [if_neg (show ¬ (false = true) by decide)] at H; obtain rfl := Option.some.inj H; go_enter Try.func40, Try.ntmps40; (go_wp2_with (first | ((with_reducible refine gate_dst (N := 2) rfl ?_); refine box_event ?hg (N := 2) ?hd (cs := #[.int .i64 a0_0, .slice A0_1 l0_1.length c0_1]) (t := 25) ?hr ?_; (case hd => rfl); (case hg => rfl); (case hr => exact zz19); intro gb101 hg w15 hbox hb; have n_ := zA4 (below_step zz2 hb) hbox (zz15 : w.heap.size ≤ gb101) (zz15 : w.heap.size ≤ gb101); clear HB; obtain ⟨HB, BK101, GW101, GE101⟩ := n_; clear hb hbox hg; have hcz16_0 := zC20 BK101; have hcz16_1 := zC21 BK101; have hfz16_0 := blk_frozen BK101.out 0; have hfz16_1 := blk_frozen BK101.out 1) | ((with_reducible refine gate_callee (f := 36) rfl ?_); refine goesL_ (some 13) rfl rfl Try.func36 (by kernel_rfl) rfl #[.agg #[.int .i64 a0_0, .slice A0_1 l0_1.length c0_1], .slice A1 l1.length c1] rfl zz3 ?_; (with_reducible refine (impl_DivisorOfOrient.calls k a0_0 _ _ l0_1 _ _ l1 t102 false _ ?side1 ?side2 ?side3 ?side4 A3.out).mono ?_); (case side1 => exact zz5); (case side2 => exact HC0_1.out); (case side3 => exact zz20); (case side4 => exact HC1.out); rintro e w17 ⟨v103, rfl, ho0, hb⟩; refine ⟨_, rfl, ?_⟩; have n_ := zA3 (Kd.R_lower ho0 (below_size zz0)) (blk_below (g := gb101) (o := .cells #[.int .i64 a0_0, .slice A0_1 l0_1.length c0_1] 25 (0, 0)) zz1 hb) (below_step zz0 hb); clear BK101 HB; obtain ⟨HO104, BK101, HB⟩ := n_; clear ho0 hb))); go_ret; exact ⟨_, zz10, zz41, zz0⟩
 subst c4; rw [if_pos rfl] at H; have H' := Aside0.mk H; clear H; go_enter Try.func40, Try.ntmps40; (go_wp2_with (first | ((with_reducible refine gate_dst (N := 2) rfl ?_); refine box_event ?hg (N := 2) ?hd (cs := #[.int .i64 a0_0, .slice A0_1 l0_1.length c0_1]) (t := 25) ?hr ?_; (case hd => rfl); (case hg => rfl); (case hr => exact zz19); intro gb101 hg w5 hbox hb; have n_ := zA4 (below_step zz2 hb) hbox (zz15 : w.heap.size ≤ gb101) (zz15 : w.heap.size ≤ gb101); clear HB; obtain ⟨HB, BK101, GW101, GE101⟩ := n_; clear hb hbox hg; have hcz6_0 := zC20 BK101; have hcz6_1 := zC21 BK101; have hfz6_0 := blk_frozen BK101.out 0; have hfz6_1 := blk_frozen BK101.out 1) | ((with_reducible refine gate_callee (f := 36) rfl ?_); refine goesL_ (some 13) rfl rfl Try.func36 (by kernel_rfl) rfl #[.agg #[.int .i64 a0_0, .slice A0_1 l0_1.length c0_1], .slice A1 l1.length c1] rfl zz3 ?_; (with_reducible refine (impl_DivisorOfOrient.calls k a0_0 _ _ l0_1 _ _ l1 t102 true _ ?side1 ?side2 ?side3 ?side4 A3.out).mono ?_); (case side1 => exact zz5); (case side2 => exact HC0_1.out); (case side3 => exact zz20); (case side4 => exact HC1.out); rintro e w7 ⟨v103, rfl, ho0, hb⟩; refine ⟨_, rfl, ?_⟩; have n_ := zA3 (Kd.R_lower ho0 (below_size zz0)) (blk_below (g := gb101) (o := .cells #[.int .i64 a0_0, .slice A0_1 l0_1.length c0_1] 25 (0, 0)) zz1 hb) (below_step zz0 hb); clear BK101 HB; obtain ⟨HO104, BK101, HB⟩ := n_; clear ho0 hb; obtain ⟨Ao8, co8, eo8⟩ := Kd.R_slice HO104.out; subst eo8))); (go_loopg [7, 20] k (fun kq v7 v20 w' => ∃ (x7_1 : List Int) (x20_1 : Int), v20 = .int .i64 x20_1 ∧ Aside0 (impl_SourcesOf.l0 kq x7_1 t102 (t102.length : Int) x20_1 = some r) ∧ Aside0 (kq ≤ k) ∧ Aside0 (Kd.R (Kd.int .i64) 3 w' w.heap.size (fun k_ => some k_ ≠ ((.slice Ao8 t102.length co8) : Value).ownBlock) v7 x7_1) ∧ Aside0 (Kd.R (Kd.int .i64) 3 w' w.heap.size (fun k_ => some k_ ≠ (v7 : Value).ownBlock) (.slice Ao8 t102.length co8) t102) ∧ Aside0 (w'.heap[gb101]? = some (.cells #[.int .i64 a0_0, (.slice A0_1 l0_1.length c0_1)] 25 (0, 0))) ∧ Aside0 (Below w.heap.size w w'))); case atStart => exact ⟨(([] : List Int)), (0), zz7, H', ⟨Nat.le_refl _⟩, ⟨zz41⟩, ⟨by (with_reducible repeat (first | apply Kd.R_alloc | apply Kd.R_drewN | apply Kd.R_drew)); exact Kd.R_mono HO104.out (fun _ hk => (by simp [Value.ownBlock]))⟩, ⟨zz1⟩, ⟨zz0⟩⟩
 case round =>
  clear H'; (try clear c1); (try clear p2); (try clear c3); (try clear c4); (try clear hcz6_0); (try clear hcz6_1); (try clear hfz6_0); (try clear hfz6_1); obtain ⟨x7_1, x20_1, rfl, HA, HK1, HO_7, HO_18, BK101, HB⟩ := hrel
  cases gk with
  | zero => exact absurd HA.out (by simp [impl_SourcesOf.l0])
  | succ k1 =>
   have H := HA.out; clear HA; simp only [impl_SourcesOf.l0] at H; by_cases c9 : x20_1 < (t102.length : Int); rotate_left
   ·rw [if_neg c9] at H; have c9b0 := decide_eq_false c9; clear c9; obtain rfl := Option.some.inj H; go_wp2; go_ret; exact ⟨_, zz10, by (with_reducible repeat (first | apply Kd.R_alloc | apply Kd.R_drewN | apply Kd.R_drew)); exact Kd.R_mono HO_7.out (fun _ hk => trivial), zz0⟩
   rw [if_pos c9] at H; have c9b0 := decide_eq_true c9; clear c9; by_cases c10 : 0 ≤ x20_1; rotate_left
   ·rw [if_neg c10] at H; exact absurd H (by simp)
   rw [if_pos c10] at H; have c10b0 := decide_eq_true c10; clear c10; by_cases c11 : x20_1 < (t102.length : Int); rotate_left
   ·rw [if_neg c11] at H; exact absurd H (by simp)
   rw [if_pos c11] at H; have c11b0 := decide_eq_true c11; clear c11; by_cases c12 : (rd t102 x20_1) = (-1); rotate_left
   ·rw [if_neg c12] at H; have c12b0 : ((rd t102 x20_1) == (-1)) = false := beq_eq_false_iff_ne.mpr c12; have c12b1 : ((rd t102 x20_1) != (-1)) = true := bne_iff_ne.mpr c12; have H' := Aside0.mk H; clear H; have p106 : 0 ≤ (x20_1 : Int) := of_decide_eq_true zz4; have q106 : x20_1 < (t102.length : Int) := of_decide_eq_true zz4; obtain ⟨ad106, e106, hx106_0⟩ := Kd.at_int (Kd.R_reads' HO_18.out).2.2 x20_1 p106 q106; cases e106; replace p106 := eq_true p106; replace q106 := eq_true q106; go_wp2; go_roundg k1; (case measure => have := HK1.out; omega); case rel => exact ⟨(x7_1), (wrap64 (x20_1 + 1)), zz7, H', ⟨zz98⟩, ⟨zz66⟩, ⟨by (with_reducible repeat (first | apply Kd.R_alloc | apply Kd.R_drewN | apply Kd.R_drew)); exact HO_18.out⟩, ⟨zz1⟩, ⟨zz0⟩⟩
   rw [if_pos c12] at H; have c12b0 : ((rd t102 x20_1) == (-1)) = true := beq_iff_eq.mpr c12; have c12b1 : ((rd t102 x20_1) != (-1)) = false := bne_eq_false_iff_eq.mpr c12; clear c12; by_cases c13 : x7_1.length < 17592186044416; rotate_left
   ·rw [if_neg c13] at H; exact absurd H (by simp)
   rw [if_pos c13] at H; have LMc13 := Aside0.mk c13; clear c13; obtain ⟨y107, hy_⟩ : ∃ y_ : List Int, y_ = (x7_1 ++ [x20_1]) := ⟨_, rfl⟩; (replace H : (impl_SourcesOf.l0 k1 y107 t102 (t102.length : Int) (wrap64 (x20_1 + 1))) = some r := zzY); have Ny107 := Aside0.mk hy_; clear hy_; have H' := Aside0.mk H; clear H; have p106 : 0 ≤ (x20_1 : Int) := of_decide_eq_true zz4; have q106 : x20_1 < (t102.length : Int) := of_decide_eq_true zz4; obtain ⟨ad106, e106, hx106_0⟩ := Kd.at_int (Kd.R_reads' HO_18.out).2.2 x20_1 p106 q106; cases e106; replace p106 := eq_true p106; replace q106 := eq_true q106; (go_wp2_with (first | ((with_reducible refine gate_builtin (b := .append) (xs := #[.tmp 27, .tmp 29]) rfl ?_); at_builtin; refine Kd.R_append (Kd.int .i64) (w0 := w) w.heap.size rfl (.tmp 27) (.tmp 29) 28 3 (.int .i64 0) 8 rfl Try.underlying28 info3 rfl (by decide) (by omega) u7 x7_1 x20_1 [.int .i64 x20_1] (fun k_ => some k_ ≠ (.slice (some ad106) t102.length co8 : Value).ownBlock) (fun _ => False) rfl rfl ?aP (fun _ hk => hk.elim) ?aF ?aO ?aB ?aS ?aL ?_; (case aP => exact rfl); (case aB => exact zz0); (case aF => exact (fun k_ hk => Kd.fresh' (Kd.R_lt (by (with_reducible repeat (first | apply Kd.R_alloc | apply Kd.R_drewN | apply Kd.R_drew)); exact HO_18.out)) k_ hk)); (case aO => exact (by (with_reducible repeat (first | apply Kd.R_alloc | apply Kd.R_drewN | apply Kd.R_drew)); exact HO_7.out)); (case aS => exact (below_size zz0)); (case aL => have := LMc13.out; omega); intro v108 w14 ho hb hg hat; rw [← Ny107.out] at ho; have n_ := zA4 (Kd.R_after (ok := (fun _ => True)) (by (with_reducible repeat (first | apply Kd.R_alloc | apply Kd.R_drewN | apply Kd.R_drew)); exact Kd.R_mono HO_18.out (fun _ hk => ⟨trivial, hk⟩)) hg hat) (blk_grown (g := gb101) (o := .cells #[.int .i64 a0_0, .slice A0_1 l0_1.length c0_1] 25 (0, 0)) zz1 hg (Kd.R_ne HO_7.out BK101.out (by decide))) hb ho; clear HO_18 BK101 HB HO_7; obtain ⟨HO_18, BK101, HB, HO109⟩ := n_; clear ho hb hg hat))); go_roundg k1; (case measure => have := HK1.out; omega); case rel => exact ⟨(y107), (wrap64 (x20_1 + 1)), zz7, H', ⟨zz98⟩, ⟨by (with_reducible repeat (first | apply Kd.R_alloc | apply Kd.R_drewN | apply Kd.R_drew)); exact HO109.out⟩, ⟨by (with_reducible repeat (first | apply Kd.R_alloc | apply Kd.R_drewN | apply Kd.R_drew)); exact Kd.R_mono HO_18.out (fun _ hk => hk.2)⟩, ⟨zz1⟩, ⟨zz0⟩⟩
def impl_copyInts.f (l0 : List Int) : Option (List Int) := if ([] : List Int).length + l0.length < 17592186044416 then (some (([] : List Int) ++ l0)) else (none)
set_option maxHeartbeats 8000000 in
set_option maxRecDepth 100000 in
theorem impl_copyInts.calls (A0 : Option Addr) (c0 : Nat) (l0 : List Int) (r : List Int) (w : World) (hr0 : Kd.C (Kd.int .i64) w A0 l0.length l0) (hc0 : l0.length ≤ c0) (h : impl_copyInts.f l0 = some r) :
  Calls Try.prog 57 #[.slice A0 l0.length c0] w fun e w' => ∃ v0_ : Value, e = .returned (v0_) ∧ Kd.R (Kd.int .i64) 3 w' w.heap.size (fun _ => True) v0_ r ∧ Below w.heap.size w w' := by
 have HR0 := Aside0.mk hr0; have HC0 := Aside0.mk hc0; clear hr0 hc0; have HB := Aside0.mk (Below.refl w.heap.size w); have H : (if ([] : List Int).length + l0.length < 17592186044416 then (some (([] : List Int) ++ l0)) else (none)) = some r := h; clear h; by_cases c2 : ([] : List Int).length + l0.length < 17592186044416; rotate_left
 ·rw [if_neg c2] at H; exact absurd H (by simp)
 rw [if_pos c2] at H; have LMc2 := Aside0.mk c2; clear c2; obtain ⟨y101, hy_⟩ : ∃ y_ : List Int, y_ = (([] : List Int) ++ l0) := ⟨_, rfl⟩; (replace H : (some y101) = some r := zzY); have Ny101 := Aside0.mk hy_; clear hy_; obtain rfl := Option.some.inj H; go_enter Try.func57, Try.ntmps57; (go_wp2_with (first | ((with_reducible refine gate_builtin (b := .append) (xs := #[.const (.slice none 0 0), .tmp 3]) rfl ?_); at_builtin; refine Kd.R_append_rows (Kd.int .i64) (w0 := w) w.heap.size rfl (.const (.slice none 0 0)) (.tmp 3) 28 3 (.int .i64 0) 8 rfl Try.underlying28 info3 rfl (by decide) (by omega) (.slice none 0 0) ([] : List Int) l0 _ _ _ (fun _ => True) (fun _ => False) rfl rfl ?aO ?aR (fun _ _ h => h) (fun _ h => h.elim) ?aF ?aB ?aS ?aL ?_; (case aR => exact zz87); (case aB => exact zz2); (case aF => exact (fun _ _ => trivial)); (case aO => exact ((Kd.R_nil _ _ _ _ (fun _ => True)))); (case aS => exact (below_size zz2)); (case aL => have := LMc2.out; omega); intro v102 w3 ho hb hg hat; rw [← Ny101.out] at ho; have n_ := zA2 hb ho; clear HB; obtain ⟨HB, HO103⟩ := n_; clear ho hb hg hat))); go_ret; exact ⟨_, zz10, by (with_reducible repeat (first | apply Kd.R_alloc | apply Kd.R_drewN | apply Kd.R_drew)); exact HO103.out, zz2⟩
end Go.Proofs.Ytgobnfeahffnaaa.P
end

