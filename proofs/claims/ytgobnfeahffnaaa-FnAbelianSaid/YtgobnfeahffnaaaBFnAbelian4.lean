/- A part of the proof of FnAbelian. -/
import Derived.Test.YtgobnfeahffnaaaBFnAbelian3
import Derived.Test.YtgobnfeahffnaaaBFnAbelian0
import Derived.Test.YtgobnfeahffnaaaBFnAbelian2
import Derived.Deep.Slices
import Derived.Lib.SmallJoins
import Derived.ChangeSame
import Derived.Test.YtgobnfeahffnaaaRows
import Derived.JoinedOf
import Derived.KernelRfl
section
namespace Go.Proofs.Ytgobnfeahffnaaa.P
open Go.RowKit Go.Proofs.YtgobnfeahffnaaaW.PrintWords Go.Proofs.YtgobnfeahffnaaaW.PrintLast Go.Proofs.YtgobnfeahffnaaaW.PrintMore
attribute [local go_sem] max2_int min2_int max_two min_two max_three min_three max_four min_four
set_option linter.unusedVariables false
set_option linter.unusedSimpArgs false
mutual
def impl_IsAcyclic.l0 : Nat → List Int → Int → Int → Int → Int → List (S83) → Option (Bool)
 | 0, _, _, _, _, _, _ => none
 | k + 1, x1, x5, x19, x20, x102000, x102001 => if x20 < x19 then (impl_IsAcyclic.l1 k x1 x5 0 x19 x20 (x1.length : Int) 0 x102000 x102001) else (some (x5 == 0))
def impl_IsAcyclic.l1 : Nat → List Int → Int → Int → Int → Int → Int → Int → Int → List (S83) → Option (Bool)
 | 0, _, _, _, _, _, _, _, _, _ => none
 | k + 1, x1, x5, x6, x19, x20, x23, x24, x102000, x102001 => if x24 < x23 then ((impl_ends.f x102000 x102001 x1 x24).bind fun bt103 => (if 0 ≤ bt103.1 then (if (Go.bits .and .i64 (shr .i64 x5 bt103.1) 1) = 1 then (if 0 ≤ bt103.2 then (impl_IsAcyclic.l1 k x1 x5 (Go.bits .or .i64 x6 (shl .i64 1 bt103.2)) x19 x20 x23 (wrap64 (x24 + 1)) x102000 x102001) else (none)) else (impl_IsAcyclic.l1 k x1 x5 x6 x19 x20 x23 (wrap64 (x24 + 1)) x102000 x102001)) else (none))) else (impl_IsAcyclic.l0 k x1 (Go.bits .and .i64 x5 x6) x19 (wrap64 (x20 + 1)) x102000 x102001)
end
def impl_IsAcyclic.f (k : Nat) (a0_0 : Int) (l0_1 : List (S83)) (l1 : List Int) : Option (Bool) := (impl_OrientOk.f k a0_0 l0_1 l1).bind fun t102 => (if t102 = true then (if 0 ≤ a0_0 then (impl_IsAcyclic.l0 k l1 (wrap64 ((shl .i64 1 a0_0) - 1)) a0_0 0 a0_0 l0_1) else (none)) else (some false))
theorem impl_IsAcyclic.mono_l : ∀ k, (∀ y0 y1 y2 y3 y4 y5, LeO (impl_IsAcyclic.l0 k y0 y1 y2 y3 y4 y5) (impl_IsAcyclic.l0 (k + 1) y0 y1 y2 y3 y4 y5)) ∧ (∀ y0 y1 y2 y3 y4 y5 y6 y7 y8, LeO (impl_IsAcyclic.l1 k y0 y1 y2 y3 y4 y5 y6 y7 y8) (impl_IsAcyclic.l1 (k + 1) y0 y1 y2 y3 y4 y5 y6 y7 y8))
 | 0 => ⟨fun _ _ _ _ _ _ r h => by simp [impl_IsAcyclic.l0] at h, fun _ _ _ _ _ _ _ _ _ r h => by simp [impl_IsAcyclic.l1] at h⟩
 | k + 1 => by
  obtain ⟨ih0, ih1⟩ := impl_IsAcyclic.mono_l k
  refine ⟨?_, ?_⟩
  ·intro y0 y1 y2 y3 y4 y5
   unfold impl_IsAcyclic.l0
   exact zm7
  ·intro y0 y1 y2 y3 y4 y5 y6 y7 y8
   unfold impl_IsAcyclic.l1
   exact zm7
theorem impl_IsAcyclic.mono : ∀ a0 a1 a2 k, LeO (impl_IsAcyclic.f k a0 a1 a2) (impl_IsAcyclic.f (k + 1) a0 a1 a2) := by
 intro a0 a1 a2 k; obtain ⟨ih0, ih1⟩ := impl_IsAcyclic.mono_l k; unfold impl_IsAcyclic.f; exact zm7
end Go.Proofs.Ytgobnfeahffnaaa.P
end

section
namespace Go.Proofs.Ytgobnfeahffnaaa.Cf
set_option linter.unusedVariables false
set_option linter.unusedSimpArgs false
open Go.RowKit Go.Proofs.YtgobnfeahffnaaaW.PrintWords Go.Proofs.Ytgobnfeahffnaaa.P
/-- No edge from the set to v. -/
def freeF (S : Nat → Bool) (v : Int) : List E → List Int → Bool
  | e :: r, x :: o => if headO e x = v ∧ S (tailO e x).toNat = true then false else freeF S v r o
  | _, _ => true
/-- Each of its vertices has an edge from it. -/
def Fed (es : List E) (o : List Int) (S : Nat → Bool) : Prop := ∀ v : Nat, S v = true → freeF S (v : Int) es o = false
def cntS (n : Nat) (S : Nat → Bool) : Nat := (List.range n).countP S
structure AInv (n : Nat) (es : List E) (o : List Int) (k : Nat) (S : Nat → Bool) : Prop where
  dom : ∀ v, S v = true → v < n
  big : ∀ C : Nat → Bool, (∀ v, C v = true → v < n) → Fed es o C → ∀ v, C v = true → S v = true
  cnt : Fed es o S ∨ cntS n S + k ≤ n
theorem AInv.round {n : Nat} {es : List E} {o : List Int} {k : Nat} {S S' : Nat → Bool} (h : AInv n es o k S) (hs : ∀ v, S' v = true → S v = true)
    (hp : ∀ C : Nat → Bool, Fed es o C → (∀ v, C v = true → S v = true) → ∀ v, C v = true → S' v = true) (hf : (∀ v, S v = true → S' v = true) → Fed es o S) : AInv n es o (k + 1) S' where
  dom v hv := h.dom v (hs v hv)
  big C hd hc v hv := hp C hc (h.big C hd hc) v hv
  cnt := by
    by_cases c : ∀ v, S v = true → S' v = true
    · left
      have e : S' = S := by
        funext v
        rw [Bool.eq_iff_iff]
        exact ⟨hs v, c v⟩
      rw [e]
      exact hf c
    · right
      rcases h.cnt with hF | hc
      · exact absurd (hp S hF (fun v hv => hv)) c
      · obtain ⟨v, hv⟩ := Classical.not_forall.1 c
        have h1 : S v = true := Classical.byContradiction fun x => hv (fun y => absurd y x)
        have h2 : S' v = false := by
          cases hb : S' v with
          | false => rfl
          | true => exact absurd (fun _ => hb) hv
        have : cntS n S' < cntS n S := countP_lt (fun x _ => hs x) ⟨v, List.mem_range.2 (h.dom v h1), h2, h1⟩
        omega
end Go.Proofs.Ytgobnfeahffnaaa.Cf
end

section
namespace Go.Proofs.Ytgobnfeahffnaaa.P
open Go.RowKit Go.Proofs.YtgobnfeahffnaaaW.PrintWords Go.Proofs.YtgobnfeahffnaaaW.PrintLast Go.Proofs.YtgobnfeahffnaaaW.PrintMore
attribute [local go_sem] max2_int min2_int max_two min_two max_three min_three max_four min_four
set_option linter.unusedVariables false
set_option linter.unusedSimpArgs false
def impl_BurnFrom.f (k : Nat) (a0_0 : Int) (l0_1 : List (S83)) (l1 : List Int) (a2 : Int) : Option (List Int × Bool) := (impl_DivisorOk.f k a0_0 l0_1 l1).bind fun t102 => (if t102 = true then ((impl_isVertex.f a0_0 l0_1 a2).bind fun t103 => (if t103 = true then ((impl_burn.f k a0_0 l0_1 l1 a2).bind fun t104 => (some (t104, true))) else (some (([] : List Int), false)))) else (some (([] : List Int), false)))
theorem impl_BurnFrom.mono : ∀ a0 a1 a2 a3 k, LeO (impl_BurnFrom.f k a0 a1 a2 a3) (impl_BurnFrom.f (k + 1) a0 a1 a2 a3) := by
 intro a0 a1 a2 a3 k; unfold impl_BurnFrom.f; repeat' first | (with_reducible apply impl_DivisorOk.mono) | (with_reducible apply impl_burn.mono) | (with_reducible exact LeO.refl _) | (with_reducible exact LeO.none _) | (with_reducible refine LeO.ite ?_ ?_) | (with_reducible refine LeO.bind ?_ (fun _ => ?_)) | apply impl_DivisorOk.mono | apply impl_burn.mono | exact LeO.none _ | refine LeO.ite ?_ ?_ | refine LeO.bind ?_ (fun _ => ?_)
def impl_OrientByBurning.f (k : Nat) (a0_0 : Int) (l0_1 : List (S83)) (l1 : List Int) (a2 : Int) : Option (List Int × Bool) := (impl_BurnFrom.f k a0_0 l0_1 l1 a2).bind fun bt102 => (if bt102.2 = true then (if (bt102.1.length : Int) < a0_0 then (some (([] : List Int), false)) else ((impl_burnt.f k a0_0 l0_1 bt102.1).bind fun t106 => (some (t106, true)))) else (some (([] : List Int), false)))
theorem impl_OrientByBurning.mono : ∀ a0 a1 a2 a3 k, LeO (impl_OrientByBurning.f k a0 a1 a2 a3) (impl_OrientByBurning.f (k + 1) a0 a1 a2 a3) := by
 intro a0 a1 a2 a3 k; unfold impl_OrientByBurning.f; repeat' first | (with_reducible apply impl_BurnFrom.mono) | (with_reducible apply impl_burnt.mono) | (with_reducible exact LeO.refl _) | (with_reducible exact LeO.none _) | (with_reducible refine LeO.ite ?_ ?_) | (with_reducible refine LeO.bind ?_ (fun _ => ?_)) | apply impl_BurnFrom.mono | apply impl_burnt.mono | exact LeO.none _ | refine LeO.ite ?_ ?_ | refine LeO.bind ?_ (fun _ => ?_)
end Go.Proofs.Ytgobnfeahffnaaa.P
end

section
namespace Go.Proofs.Ytgobnfeahffnaaa.Cf
set_option linter.unusedVariables false
set_option linter.unusedSimpArgs false
open Go.Proofs.YtgobnfeahffnaaaW.PrintWords
/-- x is reduced (at 0), and of the class of k a. -/
def Mul (n : Nat) (es : List E) (a : List Int) (k : Int) (x : List Int) : Prop :=
  x.length = n ∧ Red n es 0 (rd x) ∧ ∃ s : Int → Int, ∀ v : Int, 0 ≤ v → v < n → rd x v = k * rd a v - lap es s v
theorem Mul.unique {n : Nat} (h1 : 1 ≤ n) {es : List E} (hes : ∀ e ∈ es, EOk n e) {a : List Int} {k : Int} {x y : List Int} (hx : Mul n es a k x) (hy : Mul n es a k y) : x = y := by
  obtain ⟨xl, xr, s, hs⟩ := hx
  obtain ⟨yl, yr, t, ht⟩ := hy
  have := red_unique hes (q := 0) ⟨by omega, by omega⟩ xr yr (s := fun v => t v - s v) (fun v v0 v1 => by
    rw [lap_sub, hs v v0 v1, ht v v0 v1]; omega)
  exact (Rep.self xl).ext ((Rep.self yl).congr fun w h0 h1 => this.2 w h0 h1)
theorem Mul.same {n : Nat} {es : List E} {a : List Int} {j k : Int} {x : List Int} (hj : Mul n es a j x) (hk : Mul n es a k x) (hz : Red n es 0 (rd (List.replicate n 0))) : Mul n es a (k - j) (List.replicate n 0) := by
  obtain ⟨xl, xr, s, hs⟩ := hj
  obtain ⟨_, _, t, ht⟩ := hk
  refine ⟨by simp, hz, fun v => t v - s v, fun v v0 v1 => ?_⟩
  rw [rd_replicate, lap_sub, Int.sub_mul]
  have := hs v v0 v1
  have := ht v v0 v1
  omega
theorem Mul.zero {n : Nat} {es : List E} {a : List Int} (hz : Red n es 0 (rd (List.replicate n 0))) : Mul n es a 0 (List.replicate n 0) :=
  ⟨by simp, hz, fun _ => 0, fun v _ _ => by rw [rd_replicate, lap_const (c := 0) (fun _ _ => ⟨rfl, rfl⟩)]; omega⟩
theorem Mul.one {n : Nat} {es : List E} {a : List Int} {r : List Int × List Int} (h : Reduced n es 0 a r) : Mul n es a 1 r.1 :=
  ⟨h.1, h.2.2.1, rd r.2, fun v v0 v1 => by rw [h.2.2.2.2 v v0 v1]; omega⟩
theorem Mul.add {n : Nat} {es : List E} {a c : List Int} {j k : Int} {x y : List Int} (hx : Mul n es a j x) (hy : Mul n es a k y) (hc : ∀ v : Int, 0 ≤ v → v < n → rd c v = rd x v + rd y v) {r : List Int × List Int} (h : Reduced n es 0 c r) : Mul n es a (j + k) r.1 := by
  obtain ⟨_, _, s, hs⟩ := hx
  obtain ⟨_, _, t, ht⟩ := hy
  refine ⟨h.1, h.2.2.1, fun v => s v + t v + rd r.2 v, fun v v0 v1 => ?_⟩
  rw [h.2.2.2.2 v v0 v1, hc v v0 v1, hs v v0 v1, ht v v0 v1, lap_add, lap_add, Int.add_mul]
  omega
/-- A multiple of what has degree 0 is small. -/
theorem Mul.bd {n : Nat} (hn : 1 ≤ n ∧ n ≤ 6) {es : List E} (hes : ∀ e ∈ es, EOk n e) (hel : es.length ≤ 12) {a : List Int} (ha : a.length = n) (h0 : a.sum = 0) {k : Int} {x : List Int} (h : Mul n es a k x) : x.sum = 0 ∧ ∀ v : Int, 0 ≤ v → v < n → -72 ≤ rd x v ∧ rd x v ≤ 11 := by
  obtain ⟨xl, xr, s, hs⟩ := h
  have hsum : x.sum = 0 := by
    rw [sum_rd n x xl, sumN_congr (g := fun i : Nat => k * rd a i + lap es (fun v => - s v) i) (fun i hi => by
      rw [lap_neg]
      have := hs i (by omega) (by omega)
      omega), sumN_add, lap_sum hes]
    rw [sum_rd n a ha] at h0
    have : sumN n (fun i => k * rd a (i : Int)) = k * sumN n (fun i => rd a (i : Int)) := by
      clear hs xl xr ha h0 hes
      induction n with
      | zero => simp [sumN]
      | succ m ih =>
        simp only [sumN]
        by_cases hm : 1 ≤ m
        · rw [ih ⟨hm, by omega⟩, Int.mul_add]
        · obtain rfl : m = 0 := by omega
          simp [sumN]
    rw [this, h0]
    omega
  refine ⟨hsum, fun v v0 v1 => ?_⟩
  by_cases hv : v = 0
  · subst hv
    have := xr.at_q hn.2 hes hel (by omega)
    rw [← sum_rd n x xl, hsum] at this
    omega
  · have := xr.lt hes v0 v1 hv
    have := val_le es v
    omega
/-- Small lists as numbers. -/
def code : List Int → Int
  | [] => 0
  | a :: r => (a + 72) + 100 * code r
theorem code_bd : ∀ (l : List Int), (∀ x ∈ l, -72 ≤ x ∧ x ≤ 11) → 0 ≤ code l ∧ code l < 100 ^ l.length
  | [], _ => by simp [code]
  | a :: r, h => by
    have h1 := code_bd r (fun x hx => h x (List.mem_cons_of_mem _ hx))
    have h2 := h a List.mem_cons_self
    unfold code
    rw [List.length_cons, Int.pow_succ]
    omega
theorem code_inj : ∀ (l m : List Int), l.length = m.length → (∀ x ∈ l, -72 ≤ x ∧ x ≤ 11) → (∀ x ∈ m, -72 ≤ x ∧ x ≤ 11) → code l = code m → l = m
  | [], [], _, _, _, _ => rfl
  | [], _ :: _, h, _, _, _ => by simp at h
  | _ :: _, [], h, _, _, _ => by simp at h
  | a :: r, b :: s, hl, h, k, he => by
    have h2 := h a List.mem_cons_self
    have k2 := k b List.mem_cons_self
    unfold code at he
    have h3 : code r = code s := by omega
    rw [code_inj r s (by simpa using hl) (fun x hx => h x (List.mem_cons_of_mem _ hx)) (fun x hx => k x (List.mem_cons_of_mem _ hx)) h3]
    rw [show a = b by omega]
/-- There are no more than 100 ^ n of them. -/
theorem few {n : Nat} (hn : n ≤ 6) {L : List (List Int)} (hL : L.Nodup) (h : ∀ x ∈ L, x.length = n ∧ ∀ y ∈ x, -72 ≤ y ∧ y ≤ 11) : L.length ≤ 1000000000000 := by
  have h1 := nodup_len 1000000000000 (L.map code) (by
    unfold List.Nodup
    rw [List.pairwise_map]
    refine hL.imp_of_mem ?_
    intro x y hx hy hne he
    exact hne (code_inj x y (by rw [(h x hx).1, (h y hy).1]) (h x hx).2 (h y hy).2 he)) (by
    intro v hv
    obtain ⟨x, hx, rfl⟩ := List.mem_map.1 hv
    have h1 := code_bd x (h x hx).2
    have h2 : (100 : Int) ^ x.length ≤ 100 ^ 6 := by
      rw [(h x hx).1]
      have hc : n = 0 ∨ n = 1 ∨ n = 2 ∨ n = 3 ∨ n = 4 ∨ n = 5 ∨ n = 6 := by omega
      rcases hc with rfl | rfl | rfl | rfl | rfl | rfl | rfl <;> decide
    have h3 : (100 : Int) ^ 6 = 1000000000000 := by decide
    omega)
  simpa using h1
/-- The least multiple that is 0. -/
def OrdP (n : Nat) (es : List E) (a : List Int) (m : Int) : Prop := 1 ≤ m ∧ Mul n es a m (List.replicate n 0) ∧ ∀ j : Int, 1 ≤ j → j < m → ¬ Mul n es a j (List.replicate n 0)
theorem OrdP.unique {n : Nat} {es : List E} {a : List Int} {m m' : Int} (h : OrdP n es a m) (h' : OrdP n es a m') : m = m' := by
  apply Classical.byContradiction
  intro hne
  rcases Int.lt_or_gt_of_ne hne with c | c
  · exact h'.2.2 m h.1 c h.2.1
  · exact h.2.2 m' h'.1 c h'.2.1
open Classical in
noncomputable def ordS (n : Nat) (es : List E) (a : List Int) : Int := if h : ∃ m, OrdP n es a m then Classical.choose h else 0
theorem OrdP.eq {n : Nat} {es : List E} {a : List Int} {m : Int} (h : OrdP n es a m) : m = ordS n es a := by
  have he : ∃ m, OrdP n es a m := ⟨m, h⟩
  unfold ordS
  rw [dif_pos he]
  exact h.unique (Classical.choose_spec he)
/-- The multiples that have been seen: none of them is 0, no two are the same. -/
def Seen (n : Nat) (es : List E) (a : List Int) (L : List (List Int)) : Prop := ∀ i : Nat, (h : i < L.length) → Mul n es a ((i : Int) + 1) L[i] ∧ L[i] ≠ List.replicate n 0
theorem Seen.nodup {n : Nat} (h1 : 1 ≤ n) {es : List E} (hes : ∀ e ∈ es, EOk n e) {a : List Int} {L : List (List Int)} (hz : Red n es 0 (rd (List.replicate n 0))) (h : Seen n es a L) : L.Nodup := by
  unfold List.Nodup
  rw [List.pairwise_iff_getElem]
  intro i j hi hj hij he
  have hi' := h i hi
  have hj' := h j hj
  have hs := Mul.same (he ▸ hi'.1) hj'.1 hz
  have hk := h (j - i - 1) (by omega)
  have e : (((j - i - 1 : Nat) : Int) + 1) = (j : Int) + 1 - ((i : Int) + 1) := by omega
  rw [e] at hk
  exact hk.2 (hk.1.unique h1 hes hs)
theorem Seen.len {n : Nat} (hn : 1 ≤ n ∧ n ≤ 6) {es : List E} (hes : ∀ e ∈ es, EOk n e) (hel : es.length ≤ 12) {a : List Int} (ha : a.length = n) (h0 : a.sum = 0) {L : List (List Int)} (hz : Red n es 0 (rd (List.replicate n 0))) (h : Seen n es a L) : L.length ≤ 1000000000000 := by
  refine few hn.2 (h.nodup hn.1 hes hz) ?_
  intro x hx
  obtain ⟨i, hi, rfl⟩ := List.getElem_of_mem hx
  have hm := (h i hi).1
  refine ⟨hm.1, fun y hy => ?_⟩
  obtain ⟨j, hj, rfl⟩ := List.getElem_of_mem hy
  have := (hm.bd hn hes hel ha h0).2 j (by omega) (by have := hm.1; omega)
  rw [rd_get hj] at this
  exact this
end Go.Proofs.Ytgobnfeahffnaaa.Cf
end

section
namespace Go.Proofs.Ytgobnfeahffnaaa.Cf
set_option linter.unusedVariables false
set_option linter.unusedSimpArgs false
open Go.RowKit Go.Proofs.YtgobnfeahffnaaaW.PrintWords
theorem idxF_in (x : Int) : ∀ (l : List Int) (i : Nat), x ∈ l → (i : Int) ≤ idxF x l i ∧ idxF x l i < i + l.length
  | [], _, h => by cases h
  | a :: r, i, h => by
    unfold idxF
    by_cases c : x = a
    · rw [if_pos c, List.length_cons]; omega
    · rw [if_neg c]
      have hr : x ∈ r := by
        rcases List.mem_cons.1 h with h | h
        · exact absurd h c
        · exact h
      have := idxF_in x r (i + 1) hr
      rw [List.length_cons]
      omega
theorem idxF_app (x : Int) (m : List Int) : ∀ (l : List Int) (i : Nat), x ∈ l → idxF x (l ++ m) i = idxF x l i
  | [], _, h => by cases h
  | a :: r, i, h => by
    show (if x = a then (i : Int) else idxF x (r ++ m) (i + 1)) = if x = a then (i : Int) else idxF x r (i + 1)
    by_cases c : x = a
    · rw [if_pos c, if_pos c]
    · rw [if_neg c, if_neg c]
      refine idxF_app x m r (i + 1) ?_
      rcases List.mem_cons.1 h with h | h
      · exact absurd h c
      · exact h
theorem idxF_new (x : Int) : ∀ (l : List Int) (i : Nat), x ∉ l → idxF x (l ++ [x]) i = i + l.length
  | [], i, _ => by simp [idxF]
  | a :: r, i, h => by
    have h' : x ≠ a ∧ x ∉ r := by simpa using h
    show (if x = a then (i : Int) else idxF x (r ++ [x]) (i + 1)) = _
    rw [if_neg h'.1, idxF_new x r (i + 1) h'.2, List.length_cons]
    omega
/-- What burns, but for q, has an edge from what has burnt before. -/
theorem Burn.before {n : Nat} {es : List E} {d : Int → Int} {q : Int} (hd : ∀ v : Int, 0 ≤ v → v < n → 0 ≤ d v) {b : List Int} (h : Burn n es d q b) : idxF q b 0 = 0 ∧ ∀ v ∈ b, v ≠ q → ∃ w ∈ b, Adj es v w ∧ idxF w b 0 < idxF v b 0 := by
  induction h with
  | start => exact ⟨by simp [idxF], fun v hv hq => absurd (List.mem_singleton.1 hv) hq⟩
  | @step b v hb h0 h1 hv hlt ih =>
    have hqb : q ∈ b := by
      have : ∀ {b : List Int}, Burn n es d q b → q ∈ b := by
        intro b hb
        induction hb with
        | start => simp
        | step _ _ _ _ _ ih => exact List.mem_append_left _ ih
      exact this hb
    refine ⟨by rw [idxF_app q [v] b 0 hqb]; exact ih.1, fun u hu huq => ?_⟩
    rcases List.mem_append.1 hu with hu | hu
    · obtain ⟨w, hw, ha, hi⟩ := ih.2 u hu huq
      exact ⟨w, List.mem_append_left _ hw, ha, by rw [idxF_app w [v] b 0 hw, idxF_app u [v] b 0 hu]; exact hi⟩
    · obtain rfl := List.mem_singleton.1 hu
      have hpos : 0 < burnSum es b u := by
        have := hd u h0 h1
        omega
      have hex : ∃ w ∈ b, 0 < mult es u w := by
        apply Classical.byContradiction
        intro hc
        have hz : burnSum es b u = 0 := by
          unfold burnSum
          have : b.map (mult es u) = b.map (fun _ => (0 : Int)) := by
            apply List.map_congr_left
            intro w hw
            have h2 := mult_nonneg es u w
            have h3 : ¬ 0 < mult es u w := fun y => hc ⟨w, hw, y⟩
            omega
          rw [this]
          exact sum_zero b
        omega
      obtain ⟨w, hw, hm⟩ := hex
      have hadj : Adj es u w := by
        apply Classical.byContradiction
        intro hc
        have : mult es u w = 0 := by
          apply sumE_zero
          intro e he
          unfold multE
          rw [if_neg]
          intro hx
          exact hc ⟨e, he, hx⟩
        omega
      refine ⟨w, List.mem_append_left _ hw, hadj, ?_⟩
      rw [idxF_app w [u] b 0 hw, idxF_new u b 0 hv]
      have := idxF_in w b 0 hw
      omega
end Go.Proofs.Ytgobnfeahffnaaa.Cf
end

section
namespace Go.Proofs.Ytgobnfeahffnaaa.P
open Go.RowKit Go.Proofs.YtgobnfeahffnaaaW.PrintWords Go.Proofs.YtgobnfeahffnaaaW.PrintLast Go.Proofs.YtgobnfeahffnaaaW.PrintMore
attribute [local go_sem] max2_int min2_int max_two min_two max_three min_three max_four min_four
set_option linter.unusedVariables false
set_option linter.unusedSimpArgs false
def impl_CanonicalOf.l0 : Nat → List Int → Int → Int → List (S83) → Option (List Int)
 | 0, _, _, _, _ => none
 | k + 1, x3, x4, x102000, x102001 => if x4 < x102000 then ((impl_Valence.f k x102000 x102001 x4).bind fun t103 => (if x3.length < 17592186044416 then (impl_CanonicalOf.l0 k (x3 ++ [wrap64 (t103 - 2)]) (wrap64 (x4 + 1)) x102000 x102001) else (none))) else (some x3)
def impl_CanonicalOf.f (k : Nat) (a0_0 : Int) (l0_1 : List (S83)) : Option (List Int) := (impl_GraphOk.f a0_0 l0_1).bind fun t102 => (if t102 = true then (impl_CanonicalOf.l0 k ([] : List Int) 0 a0_0 l0_1) else (some ([] : List Int)))
theorem impl_CanonicalOf.mono_l : ∀ k, (∀ y0 y1 y2 y3, LeO (impl_CanonicalOf.l0 k y0 y1 y2 y3) (impl_CanonicalOf.l0 (k + 1) y0 y1 y2 y3))
 | 0 => fun _ _ _ _ r h => by simp [impl_CanonicalOf.l0] at h
 | k + 1 => by
  have ih0 := impl_CanonicalOf.mono_l k
  ·intro y0 y1 y2 y3
   unfold impl_CanonicalOf.l0
   exact zm9
theorem impl_CanonicalOf.mono : ∀ a0 a1 k, LeO (impl_CanonicalOf.f k a0 a1) (impl_CanonicalOf.f (k + 1) a0 a1) := by
 intro a0 a1 k; have ih0 := impl_CanonicalOf.mono_l k; unfold impl_CanonicalOf.f; exact zm9
def impl_GenusOf.f (a0_0 : Int) (l0_1 : List (S83)) : Option (Int) := (impl_GraphOk.f a0_0 l0_1).bind fun t102 => (if t102 = true then (some (wrap64 ((wrap64 ((l0_1.length : Int) - a0_0)) + 1))) else (some (-1)))
def impl_IsWinnable.f (k : Nat) (a0_0 : Int) (l0_1 : List (S83)) (l1 : List Int) : Option (Bool) := (impl_DivisorOk.f k a0_0 l0_1 l1).bind fun t102 => (if t102 = true then ((impl_winnable.f k a0_0 l0_1 l1).bind fun t103 => (some t103)) else (some false))
theorem impl_IsWinnable.mono : ∀ a0 a1 a2 k, LeO (impl_IsWinnable.f k a0 a1 a2) (impl_IsWinnable.f (k + 1) a0 a1 a2) := by
 intro a0 a1 a2 k; unfold impl_IsWinnable.f; repeat' first | (with_reducible apply impl_DivisorOk.mono) | (with_reducible apply impl_winnable.mono) | (with_reducible exact LeO.refl _) | (with_reducible exact LeO.none _) | (with_reducible refine LeO.ite ?_ ?_) | (with_reducible refine LeO.bind ?_ (fun _ => ?_)) | apply impl_DivisorOk.mono | apply impl_winnable.mono | exact LeO.none _ | refine LeO.ite ?_ ?_ | refine LeO.bind ?_ (fun _ => ?_)
def impl_AddDivisors.f (k : Nat) (l0 : List Int) (l1 : List Int) : Option (List Int × Bool) := if (l0.length : Int) = (l1.length : Int) then ((impl_plus.f k l0 l1).bind fun t101 => (some (t101, true))) else (some (([] : List Int), false))
theorem impl_AddDivisors.mono : ∀ a0 a1 k, LeO (impl_AddDivisors.f k a0 a1) (impl_AddDivisors.f (k + 1) a0 a1) := by
 intro a0 a1 k; unfold impl_AddDivisors.f; repeat' first | (with_reducible apply impl_plus.mono) | (with_reducible exact LeO.refl _) | (with_reducible exact LeO.none _) | (with_reducible refine LeO.ite ?_ ?_) | (with_reducible refine LeO.bind ?_ (fun _ => ?_)) | apply impl_plus.mono | exact LeO.none _ | refine LeO.ite ?_ ?_ | refine LeO.bind ?_ (fun _ => ?_)
end Go.Proofs.Ytgobnfeahffnaaa.P
end

section
namespace Go.Proofs.Ytgobnfeahffnaaa.Cf
set_option linter.unusedVariables false
set_option linter.unusedSimpArgs false
open Go.RowKit Go.Proofs.YtgobnfeahffnaaaW.PrintWords Go.Proofs.Ytgobnfeahffnaaa.P
/-- y, c: what is left of p, and how often each vertex toppled, after the legal script s. -/
structure Abl (n : Nat) (es : List E) (q : Int) (p : List Int) (s : Int → Int) (y c : List Int) : Prop where
  legal : Legal n es q (rd p) s
  left : Rep n y (fun w => if w = q then 0 else rd p w - lap es s w)
  times : Rep n c s
theorem Abl.rd_ne {n : Nat} {es : List E} {q : Int} {p : List Int} {s : Int → Int} {y c : List Int} (h : Abl n es q p s y c) {v : Int} (v0 : 0 ≤ v) (v1 : v < n) (v2 : v ≠ q) : rd y v = rd p v - lap es s v := (h.left.2 v v0 v1).trans (if_neg v2)
theorem Abl.rd_q {n : Nat} {es : List E} {q : Int} {p : List Int} {s : Int → Int} {y c : List Int} (h : Abl n es q p s y c) (hq : 0 ≤ q ∧ q < n) : rd y q = 0 := (h.left.2 q hq.1 hq.2).trans (if_pos rfl)
theorem lap_zero (es : List E) (w : Int) : lap es (fun _ => 0) w = 0 := lap_const (c := 0) (fun _ _ => ⟨rfl, rfl⟩) w
theorem Pl.pre {n : Nat} {q : Int} {p : List Int} (h : Pl n q p) : Pre n q p where
  len := h.len
  bd := fun v v0 v1 _ => by have := h.bd6 v v0 v1; omega
  at_q := h.hq
theorem Abl.start {n : Nat} {es : List E} {q : Int} {p : List Int} (h : Pl n q p) : Abl n es q p (fun _ => 0) p (List.replicate n 0) where
  legal := .zero
  left := (Rep.self h.len).congr fun w _ _ => by
    rw [lap_zero]
    split
    · rename_i e; rw [e, h.hq]
    · omega
  times := Rep.zero n
theorem Pl.sum {n : Nat} (hn : n ≤ 6) {q : Int} {p : List Int} (h : Pl n q p) : sumN n (fun i => rd p (i : Int)) ≤ 36 := by
  have := sumN_le_const (n := n) (f := fun i => rd p (i : Int)) (c := 6) (fun i hi => (h.bd6 (i : Int) (by omega) (by omega)).2)
  omega
theorem Abl.small {n : Nat} {es : List E} {q : Int} (g : Gr n es q) {p : List Int} (hp : Pl n q p) {s : Int → Int} {y c : List Int} (h : Abl n es q p s y c) : (∀ v : Int, 0 ≤ v → v < n → 0 ≤ s v ∧ s v ≤ 216) ∧ sumN n (fun i => s (i : Int)) ≤ 1296 := by
  have := h.legal.small g.n6 g.hes g.hj g.hq (c := 6) (by omega) (fun v v0 v1 _ => (hp.bd6 v v0 v1).2)
  exact this
theorem Abl.pOk {n : Nat} {es : List E} {q : Int} (g : Gr n es q) (hg : GOk (n : Int) es) {p : List Int} (hp : Pl n q p) {s : Int → Int} {y c : List Int} (h : Abl n es q p s y c) : Cf.pOk (n : Int) es y q = true := by
  have hk := h.legal.keeps g.hes (fun v v0 v1 _ => (hp.bd6 v v0 v1).1)
  have hc := fun (v : Int) (v0 : 0 ≤ v) (v1 : v < n) => h.legal.chips g.hes (fun v v0 v1 _ => (hp.bd6 v v0 v1).1) (hp.bd6 q g.hq.1 g.hq.2).1 v0 v1
  have hs := hp.sum g.n6
  have hrd : ∀ v : Int, 0 ≤ v → v < n → v ≠ q → rd y v = rd p v - lap es s v := fun v v0 v1 v2 => h.rd_ne v0 v1 v2
  refine pile_of g hg h.left.1 (h.rd_q g.hq) (fun v v0 v1 v2 => by rw [hrd v v0 v1 v2]; exact hk v v0 v1 v2) (fun v v0 v1 => ?_)
  have v1' : v < n := by have := h.left.1; omega
  by_cases e : v = q
  · rw [e, h.rd_q g.hq]; omega
  · rw [hrd v v0 v1' e]
    have h1 := hk v v0 v1' e
    have h2 := hc v v0 v1'
    omega
theorem Abl.step {n : Nat} {es : List E} {q : Int} {p : List Int} {s : Int → Int} {y c : List Int} (h : Abl n es q p s y c) {v : Int} (v0 : 0 ≤ v) (v1 : v < n) (v2 : v ≠ q) (hv : val es v ≤ rd y v) (hs : 0 ≤ s v ∧ s v ≤ 216) :
    Abl n es q p (fun w => s w + one v 1 w) (repL n (topF es y q v)) (c.set v.toNat (wrap64 (rd c v + 1))) where
  legal := .step h.legal v0 v1 v2 (by
    have := h.rd_ne v0 v1 v2
    omega)
  left := (repL_rep n _).congr fun w w0 w1 => by
    unfold topF
    by_cases e : w = q
    · rw [if_pos e, if_pos e]
    · rw [if_neg e, if_neg e, lap_add, h.rd_ne w0 w1 e]
      omega
  times := (h.times.set v0 v1 _).congr fun w w0 w1 => by
    unfold one
    rw [h.times.2 v v0 v1, wrap_id (by omega) (by omega)]
    split
    · rename_i e; rw [e]
    · omega
theorem abel_l1 {n : Nat} {es : List E} {q : Int} {y c x0 c0 : List Int} {kk turn : Int} (hk : 0 ≤ kk ∧ kk ≤ 5000) (ht : 0 ≤ turn ∧ turn ≤ 65535) (h6 : n ≤ 6) (hy : y.length = n) (hc : c.length = n) (hx0 : x0.length ≤ 1048576) (hc0 : c0.length ≤ 1048576)
    (hno : (∀ v : Int, 0 ≤ v → v < n → ¬ topC n es y q v) → x0 = y ∧ c0 = c) (hyes : ∀ v : Int, 0 ≤ v → v < n → topC n es y q v → Ep (fun k => laws_FnAbelian.l0 k q x0 c0 turn (repL n (topF es y q v)) (c.set v.toNat (wrap64 (rd c v + 1))) (wrap64 (kk + 1)) (n : Int) es) (· = true)) :
    ∀ (d i : Nat) (at_ : Int), i + d = n → (at_ = -1 ∧ (∀ j : Nat, j < i → ¬ topC n es y q (Int.emod (j + kk + turn) n)) ∨ (0 ≤ at_ ∧ at_ < n ∧ topC n es y q at_)) →
    Ep (fun k => laws_FnAbelian.l1 k q x0 c0 turn y c kk at_ (i : Int) (n : Int) es) (· = true) := by
  intro d
  induction d with
  | zero =>
    intro i at_ hi ha
    refine Ep.up ?_
    simp only [laws_FnAbelian.l1]
    refine Ep.neg (by omega) ?_
    rcases ha with ⟨rfl, hall⟩ | ⟨a0, a1, ha⟩
    · refine Ep.pos (by omega) ?_
      obtain ⟨rfl, rfl⟩ := hno fun v v0 v1 => by
        have h1 := hall (Int.emod (v - kk - turn) n).toNat (by
          have := Int.emod_nonneg (v - kk - turn) (show (n : Int) ≠ 0 by omega)
          have := Int.emod_lt_of_pos (v - kk - turn) (show 0 < (n : Int) by omega)
          show ((v - kk - turn) % (n : Int)).toNat < i
          omega)
        have h2 : Int.emod (((Int.emod (v - kk - turn) n).toNat : Int) + kk + turn) n = v := by
          have h3 := Int.emod_nonneg (v - kk - turn) (show (n : Int) ≠ 0 by omega)
          show (((((v - kk - turn) % (n : Int)).toNat : Nat) : Int) + kk + turn) % (n : Int) = v
          rw [Int.toNat_of_nonneg h3, show (v - kk - turn) % (n : Int) + kk + turn = (v - kk - turn) % (n : Int) + (kk + turn) by omega, Int.emod_add_emod, show v - kk - turn + (kk + turn) = v by omega]
          exact Int.emod_eq_of_lt v0 v1
        rw [h2] at h1
        exact h1
      refine Ep.bind (same_yes rfl hx0) ?_
      rintro _ rfl
      refine Ep.pos rfl (Ep.bind (same_yes rfl hc0) ?_)
      rintro _ rfl
      exact Ep.now rfl
    · refine Ep.neg (by omega) ?_
      refine Ep.bind (P := (· = (repL n (topF es y q at_), true))) ((implTopple _ es y q at_ (by omega)).mono (by
        rintro _ rfl
        unfold topO
        rw [if_pos ha, Int.toNat_natCast])) ?_
      rintro _ rfl
      refine Ep.pos rfl (Ep.pos a0 (Ep.pos (by omega) ?_))
      exact hyes at_ a0 a1 ha
  | succ d ih =>
    intro i at_ hi ha
    refine Ep.up ?_
    simp only [laws_FnAbelian.l1]
    have e : Int.tmod (wrap64 (wrap64 ((i : Int) + kk) + turn)) n = Int.emod (i + kk + turn) n := by
      rw [wrap_id (x := (i : Int) + kk) (by omega) (by omega), wrap_id (by omega) (by omega)]
      exact Int.tmod_eq_emod_of_nonneg (by omega)
    have hv0 := Int.emod_nonneg ((i : Int) + kk + turn) (show (n : Int) ≠ 0 by omega)
    have hv1 := Int.emod_lt_of_pos ((i : Int) + kk + turn) (show 0 < (n : Int) by omega)
    refine Ep.pos (by omega) (Ep.neg (by omega) ?_)
    rw [e]
    refine Ep.bind (implTopple _ es y q _ (by omega)) ?_
    rintro _ rfl
    rw [wrap_succ (by omega)]
    by_cases ht : topC n es y q (Int.emod (i + kk + turn) n)
    · have : (topO (n : Int) es y q (Int.emod (i + kk + turn) n)).2 = true := by unfold topO; rw [if_pos ht]
      exact Ep.pos this (ih (i + 1) _ (by omega) (.inr ⟨hv0, hv1, ht⟩))
    · have : ¬ (topO (n : Int) es y q (Int.emod (i + kk + turn) n)).2 = true := by unfold topO; rw [if_neg ht]; simp
      refine Ep.neg this (ih (i + 1) _ (by omega) ?_)
      rcases ha with ⟨rfl, hall⟩ | ha
      · refine .inl ⟨rfl, fun j hj => ?_⟩
        by_cases c : j < i
        · exact hall j c
        · obtain rfl : j = i := by omega
          exact ht
      · exact .inr ha
theorem abel_l0 {n : Nat} {es : List E} {q : Int} (g : Gr n es q) (hg : GOk (n : Int) es) {p : List Int} (hp : Pl n q p) {turn : Int} (ht : 0 ≤ turn ∧ turn ≤ 65535) :
    ∀ (d k : Nat) (s : Int → Int) (y c : List Int), k + d = 1300 → sumN n (fun i => s (i : Int)) = k → Abl n es q p s y c →
    Ep (fun f => laws_FnAbelian.l0 f q (settleS n es q p).1 (settleS n es q p).2 turn y c (k : Int) (n : Int) es) (· = true) := by
  have h6 := g.n6
  have hl := settleS_len es q p h6
  intro d
  induction d with
  | zero =>
    intro k s y c hd hs h
    have := (h.small g hp).2
    omega
  | succ d ih =>
    intro k s y c hd hs h
    refine Ep.up ?_
    simp only [laws_FnAbelian.l0]
    refine Ep.pos (by omega) ?_
    have hpk := h.pOk g hg hp
    refine abel_l1 (n := n) ⟨by omega, by omega⟩ ht h6 h.left.1 h.times.1 (by omega) (by omega) (fun hno => ?_) (fun v v0 v1 hv => ?_) n 0 (-1) (by omega) (.inl ⟨rfl, fun j hj => by omega⟩)
    · have hst : Stable n es q (fun v => rd p v - lap es s v) := fun v v0 v1 v2 => by
        have h1 := hno v v0 v1
        have h2 := h.rd_ne v0 v1 v2
        apply Classical.byContradiction
        intro hc
        exact h1 ⟨hpk, v2, ⟨v0, v1⟩, by rw [valG_in ⟨v0, v1⟩]; dsimp only at hc; omega⟩
      have hS : Settled n es q p (y, c) := ⟨s, h.legal, hst, h.left, h.times⟩
      rw [← hS.eq]
      exact ⟨rfl, rfl⟩
    · have hsm := h.small g hp
      have h1 := h.step v0 v1 hv.2.1 (by have := hv.2.2.2; rw [valG_in ⟨v0, v1⟩] at this; exact this) (hsm.1 v v0 v1)
      have h2 : sumN n (fun i => (fun w => s w + one v 1 w) (i : Int)) = ((k + 1 : Nat) : Int) := by rw [sum_grow v0 v1, hs]; omega
      have h3 := ih (k + 1) _ _ _ (by omega) h2 h1
      rw [wrap_succ (by omega)]
      exact h3
theorem law_FnAbelian (l : List Int) (wl : SL (Wf .u8) l) : Ep (fun k => laws_FnAbelian.f k l) (· = true) := by
  simp only [laws_FnAbelian.f]
  refine Ep.ite (fun _ => Ep.now rfl) (fun hc => ?_)
  have hb : l.length ≤ 1048576 := by omega
  refine Ep.bind (makeGraph l hb) ?_
  rintro ⟨n', es⟩ ⟨n, hn, h2, h5, hg⟩
  dsimp only at hn hg ⊢
  subst hn
  refine Ep.bind (makeNum l hb 60 (by omega)) ?_
  rintro t ⟨t0, t1⟩
  refine Ep.neg (by omega) ?_
  have hq' : 0 ≤ Int.tmod t n ∧ Int.tmod t n < n := ⟨Int.tmod_nonneg _ t0, Int.tmod_lt_of_pos _ (by omega)⟩
  generalize Int.tmod t n = q at hq' ⊢
  have g : Gr n es q := Gr.of hg hq'
  have hel := g.hel
  have h6 := g.n6
  refine Ep.bind (makePile l hb 20 (by omega) (by omega) hq' es) ?_
  intro p hp
  have hpk : pOk (n : Int) es p q = true := (Abl.start (es := es) hp).pOk g hg hp
  have hpl := hp.len
  obtain ⟨s, hL, hS, hx, hcn⟩ := settleS_ok g hp.pre
  have hA : Abl n es q p s (settleS n es q p).1 (settleS n es q p).2 := ⟨hL, hx, hcn⟩
  have hsm := hA.small g hp
  refine Ep.bind (P := (· = ((settleS n es q p).1, (settleS n es q p).2, true))) ((implStabO _ es p q (by omega)).mono (by
    rintro _ rfl
    unfold stabO
    rw [if_pos hpk]
    rfl)) ?_
  rintro _ rfl
  dsimp only
  refine Ep.pos rfl (Ep.pos (by have := hcn.1; omega) ?_)
  refine Ep.bind (P := (· = true)) ((implStable _ es _ q (by omega) (by have := hx.1; omega)).mono (by
    rintro _ rfl
    unfold sOk
    rw [Bool.and_eq_true, decide_eq_true_eq]
    refine ⟨hA.pOk g hg hp, unst_stable hx.1 fun v v0 v1 v2 => ?_⟩
    rw [hA.rd_ne v0 v1 v2]
    exact hS v v0 v1 v2)) ?_
  rintro _ rfl
  refine Ep.pos rfl (Ep.bind (P := (· = (settleS n es q p).2.sum)) ((implAva _ es p q (by omega)).mono (by
    rintro _ rfl
    unfold avaO stabO
    rw [if_pos hpk, if_pos rfl]
    rfl)) ?_)
  rintro _ rfl
  simp only [impl_DegreeOf.f]
  refine Ep.bind (P := (· = (settleS n es q p).2.sum)) (Ep.bind (implSum _ (by have := hcn.1; omega) (by
    intro x hx'
    have := settleS_bd g hp.pre x hx'
    omega)) (by
    rintro _ rfl
    exact Ep.now rfl)) ?_
  rintro _ rfl
  refine Ep.up ?_
  simp only [laws_FnAbelian.j0]
  refine Ep.neg (by simp) (Ep.bind (makeNum l hb 30 (by omega)) ?_)
  rintro turn ht
  refine Ep.bind0 rfl (Ep.pos (by simp; omega) (Ep.pos (by omega) (Ep.pos (by omega) ?_)))
  rw [Int.toNat_natCast, List.nil_append]
  exact abel_l0 g hg hp ht 1300 0 _ _ _ (by omega) (by simp [sumN_zero]) (Abl.start hp)
end Go.Proofs.Ytgobnfeahffnaaa.Cf
end

section
namespace Go.Proofs.Ytgobnfeahffnaaa.Cf
set_option linter.unusedVariables false
set_option linter.unusedSimpArgs false
open Go.RowKit Go.ChangeShapes Go.WideShapes Go.Deep Go.Joins Go.Proofs.YtgobnfeahffnaaaW.PrintWords
section
variable {H : Type} {enc : TypeId × Value → H} {P : Program} {w : World} {base : Nat} {spare : Nat → Bool} {held : Bool}
/-- A slice, whatever its elements are, if each of them can be told. -/
theorem trod_C {α : Type} {d : Kd α} {Q : α → Prop} (hd : Inhabited α) {t e : TypeId} {fuel : Nat} {cs : List Value} {x : DataW H × List MemPlace} (ht : P.underlying t = some (.slice e)) (hsz : P.cellsOf e = d.sz)
    (hel : ∀ (n : Nat) (cs : List Value) (y : DataW H × List MemPlace), DataW.trod enc P w base spare held n e cs = some y → ∃ a : α, d.K w a cs ∧ Q a)
    (h : DataW.trod enc P w base spare held fuel t cs = some x) : ∃ A len cap xs, cs = [.slice A len cap] ∧ xs.length = len ∧ len ≤ cap ∧ Kd.C d w A len xs ∧ SL Q xs := by
  rcases open_slice ht h with ⟨rfl, _⟩ | ⟨a, len, cap, m, n, D, Pl, rfl, _, hl, hm, hmm, _, hx⟩
  · exact ⟨none, 0, 0, [], rfl, rfl, Nat.le_refl _, ⟨rfl, by omega, fun hn => by omega⟩, by simp, fun x hx => by cases hx⟩
  · have hlm : len ≤ m := by rw [hmm]; split <;> omega
    obtain ⟨X, hX⟩ := choose_lt (α := α) (n := len) (p := fun i z => Q z ∧ ∃ c, c.length = d.sz ∧ d.K w z c ∧ ∀ j u, c[j]? = some u → w.cell? (a.add (i * d.sz + j)) = some u) (fun i hi => by
      obtain ⟨cs', h1, h2⟩ := hx i (by omega)
      obtain ⟨z, hz, hq⟩ := hel n cs' _ h2
      obtain ⟨_, hlen, hc⟩ := World.cells?_some h1
      refine ⟨z, hq, cs', by rw [hlen, hsz], hz, fun j u hj => ?_⟩
      have hjl : j < cs'.length := by
        apply Classical.byContradiction
        intro hc
        rw [List.getElem?_eq_none (by omega)] at hj
        cases hj
      have := hc j (by omega)
      rw [Deep.add_add, hsz] at this
      rw [this, hj])
    refine ⟨some a, len, cap, (List.range len).map X, rfl, by simp, hl, ⟨by simp, ?_, fun _ => ⟨a, rfl, fun j p hj => ?_⟩⟩, by simp; unfold maxLen at hm; omega, fun x hx => ?_⟩
    · unfold maxLen at hm
      omega
    · have hjl : j < len := by
        apply Classical.byContradiction
        intro hc
        rw [List.getElem?_eq_none (by simp; omega)] at hj
        cases hj
      have : p = X j := by
        rw [List.getElem?_eq_getElem (by simpa using hjl)] at hj
        simpa using hj.symm
      subst this
      exact (hX j hjl).2
    · obtain ⟨i, hi, rfl⟩ := List.mem_map.1 hx
      exact (hX i (List.mem_range.1 hi)).1
theorem el_int {k : IntKind} {e : TypeId} (he : P.underlying e = some (.int k)) : ∀ (n : Nat) (cs : List Value) (y : DataW H × List MemPlace), DataW.trod enc P w base spare held n e cs = some y → ∃ a : Int, (Kd.int k).K w a cs ∧ Wf k a := by
  intro n cs y h
  obtain ⟨a, rfl, _, hw⟩ := DataW.trod_int he h
  exact ⟨a, rfl, hw⟩
/-- A slice that comes in. -/
theorem arg_slice {α : Type} {d : Kd α} {Q : α → Prop} (hd : Inhabited α) {t e : TypeId} {a : Option Addr} {len cap : Nat} {x : DataW H} {ps : List MemPlace} (ht : P.underlying t = some (.slice e)) (hsz : P.cellsOf e = d.sz)
    (hel : ∀ (n : Nat) (cs : List Value) (y : DataW H × List MemPlace), DataW.trod enc P w base spare held n e cs = some y → ∃ a : α, d.K w a cs ∧ Q a)
    (h : DataW.Trod enc P w base spare held t (.slice a len cap) x ps) : ∃ xs : List α, xs.length = len ∧ len ≤ cap ∧ Kd.C d w a len xs ∧ SL Q xs := by
  obtain ⟨fuel, hf⟩ := h
  obtain ⟨A, l, c, xs, hcs, hl, hc, hC, hq⟩ := trod_C hd ht hsz hel hf
  simp [Value.cells] at hcs
  obtain ⟨rfl, rfl, rfl⟩ := hcs
  exact ⟨xs, hl, hc, hC, hq⟩
end
end Go.Proofs.Ytgobnfeahffnaaa.Cf
end

section
namespace Go.Proofs.Ytgobnfeahffnaaa.Cf
theorem and2 {a b : Bool} (h : a = true) (k : b = true) : (a && b) = true := by rw [h, k]; rfl
theorem iniS : Try.prog.initOrder.toList = ['h', 'a', 'r', 'n', 'e', 's', 's', ' ', '8', '5', '5', '5', '5', '4', '9', '6', '9', 'c', 'f', '8', '4', 'a', '9', '0', '1', '2', '7', 'f', '4', '7', '3', '1', '9', 'b', '4', 'd', '8', 'a', 'a', '0', 'f', 'f', '0', 'e', 'a', '8', '9', '4', '2', '2', '1', '3', '3', '4', '0', '4', '7', '0', '2', '9', 'f', 'f', 'd', 'b', '6', '8', '2', '7', '9', '3', '9', '9', ' ', 'c', 'u', 't', ' ', 'a', 't', ' ', 'l', 'o', 'o', 'p', '.', 'e', 'x', 'a', 'm', 'p', 'l', 'e', '/', 'g', '0', '0', '8', '4', '1', '/', 'l', 'a', 'w', 's', '.', 'F', 'n', 'R', 'e', 'c', 'u', 'r', 'r', 'e', 'n', 't', ' ', 'l', 'o', 'o', 'p', '.', 'e', 'x', 'a', 'm', 'p', 'l', 'e', '/', 'g', '0', '0', '8', '4', '1', '/', 'l', 'a', 'w', 's', '.', 'F', 'n', 'A', 'b', 'e', 'l', 'i', 'a', 'n', ' ', 'l', 'o', 'o', 'p', '.', 'e', 'x', 'a', 'm', 'p', 'l', 'e', '/', 'g', '0', '0', '8', '4', '1', '/', 'l', 'a', 'w', 's', '.', 'F', 'n', 'E', 'x', 'a', 'c', 't', 'S', 'u', 'm', 'O', 'f', 'P', 'i', 'l', 'e', 's', ' ', 'l', 'o', 'o', 'p', '.', 'e', 'x', 'a', 'm', 'p', 'l', 'e', '/', 'g', '0', '0', '8', '4', '1', '/', 'l', 'a', 'w', 's', '.', 'F', 'n', 'E', 'x', 'a', 'c', 't', 'S', 'u', 'm', 'O', 'f', 'C', 'l', 'a', 's', 's', 'e', 's', ' ', 'l', 'o', 'o', 'p', '.', 'e', 'x', 'a', 'm', 'p', 'l', 'e', '/', 'g', '0', '0', '8', '4', '1', '/', 'l', 'a', 'w', 's', '.', 'F', 'n', 'E', 'x', 'a', 'c', 't', 'I', 'd', 'e', 'n', 't', 'i', 't', 'y', 'P', 'i', 'l', 'e', ' ', 'l', 'o', 'o', 'p', '.', 'e', 'x', 'a', 'm', 'p', 'l', 'e', '/', 'g', '0', '0', '8', '4', '1', '/', 'l', 'a', 'w', 's', '.', 'F', 'n', 'O', 'r', 'i', 'e', 'n', 't', 's'] := by
  have h : Try.prog.initOrder = String.ofList ['h', 'a', 'r', 'n', 'e', 's', 's', ' ', '8', '5', '5', '5', '5', '4', '9', '6', '9', 'c', 'f', '8', '4', 'a', '9', '0', '1', '2', '7', 'f', '4', '7', '3', '1', '9', 'b', '4', 'd', '8', 'a', 'a', '0', 'f', 'f', '0', 'e', 'a', '8', '9', '4', '2', '2', '1', '3', '3', '4', '0', '4', '7', '0', '2', '9', 'f', 'f', 'd', 'b', '6', '8', '2', '7', '9', '3', '9', '9', ' ', 'c', 'u', 't', ' ', 'a', 't', ' ', 'l', 'o', 'o', 'p', '.', 'e', 'x', 'a', 'm', 'p', 'l', 'e', '/', 'g', '0', '0', '8', '4', '1', '/', 'l', 'a', 'w', 's', '.', 'F', 'n', 'R', 'e', 'c', 'u', 'r', 'r', 'e', 'n', 't', ' ', 'l', 'o', 'o', 'p', '.', 'e', 'x', 'a', 'm', 'p', 'l', 'e', '/', 'g', '0', '0', '8', '4', '1', '/', 'l', 'a', 'w', 's', '.', 'F', 'n', 'A', 'b', 'e', 'l', 'i', 'a', 'n', ' ', 'l', 'o', 'o', 'p', '.', 'e', 'x', 'a', 'm', 'p', 'l', 'e', '/', 'g', '0', '0', '8', '4', '1', '/', 'l', 'a', 'w', 's', '.', 'F', 'n', 'E', 'x', 'a', 'c', 't', 'S', 'u', 'm', 'O', 'f', 'P', 'i', 'l', 'e', 's', ' ', 'l', 'o', 'o', 'p', '.', 'e', 'x', 'a', 'm', 'p', 'l', 'e', '/', 'g', '0', '0', '8', '4', '1', '/', 'l', 'a', 'w', 's', '.', 'F', 'n', 'E', 'x', 'a', 'c', 't', 'S', 'u', 'm', 'O', 'f', 'C', 'l', 'a', 's', 's', 'e', 's', ' ', 'l', 'o', 'o', 'p', '.', 'e', 'x', 'a', 'm', 'p', 'l', 'e', '/', 'g', '0', '0', '8', '4', '1', '/', 'l', 'a', 'w', 's', '.', 'F', 'n', 'E', 'x', 'a', 'c', 't', 'I', 'd', 'e', 'n', 't', 'i', 't', 'y', 'P', 'i', 'l', 'e', ' ', 'l', 'o', 'o', 'p', '.', 'e', 'x', 'a', 'm', 'p', 'l', 'e', '/', 'g', '0', '0', '8', '4', '1', '/', 'l', 'a', 'w', 's', '.', 'F', 'n', 'O', 'r', 'i', 'e', 'n', 't', 's'] := by kernel_rfl
  exact (congrArg String.toList h).trans String.toList_ofList
theorem iniW : behindMainWord (wordsSigns Try.prog.initOrder.toList) = [['c', 'u', 't'], ['a', 't'], ['l', 'o', 'o', 'p', '.', 'e', 'x', 'a', 'm', 'p', 'l', 'e', '/', 'g', '0', '0', '8', '4', '1', '/', 'l', 'a', 'w', 's', '.', 'F', 'n', 'R', 'e', 'c', 'u', 'r', 'r', 'e', 'n', 't'], ['l', 'o', 'o', 'p', '.', 'e', 'x', 'a', 'm', 'p', 'l', 'e', '/', 'g', '0', '0', '8', '4', '1', '/', 'l', 'a', 'w', 's', '.', 'F', 'n', 'A', 'b', 'e', 'l', 'i', 'a', 'n'], ['l', 'o', 'o', 'p', '.', 'e', 'x', 'a', 'm', 'p', 'l', 'e', '/', 'g', '0', '0', '8', '4', '1', '/', 'l', 'a', 'w', 's', '.', 'F', 'n', 'E', 'x', 'a', 'c', 't', 'S', 'u', 'm', 'O', 'f', 'P', 'i', 'l', 'e', 's'], ['l', 'o', 'o', 'p', '.', 'e', 'x', 'a', 'm', 'p', 'l', 'e', '/', 'g', '0', '0', '8', '4', '1', '/', 'l', 'a', 'w', 's', '.', 'F', 'n', 'E', 'x', 'a', 'c', 't', 'S', 'u', 'm', 'O', 'f', 'C', 'l', 'a', 's', 's', 'e', 's'], ['l', 'o', 'o', 'p', '.', 'e', 'x', 'a', 'm', 'p', 'l', 'e', '/', 'g', '0', '0', '8', '4', '1', '/', 'l', 'a', 'w', 's', '.', 'F', 'n', 'E', 'x', 'a', 'c', 't', 'I', 'd', 'e', 'n', 't', 'i', 't', 'y', 'P', 'i', 'l', 'e'], ['l', 'o', 'o', 'p', '.', 'e', 'x', 'a', 'm', 'p', 'l', 'e', '/', 'g', '0', '0', '8', '4', '1', '/', 'l', 'a', 'w', 's', '.', 'F', 'n', 'O', 'r', 'i', 'e', 'n', 't', 's']] := (congrArg (fun x => behindMainWord (wordsSigns x)) iniS).trans (by kernel_rfl)
theorem mk_cut {P : Program} {r : List (List Char)} (h : behindMainWord (wordsSigns P.initOrder.toList) = ['c', 'u', 't'] :: r) : P.make = some .cut := by
  unfold Program.make
  rw [h]
  rfl
theorem lf_cut {P : Program} {r : List (List Char)} (h : behindMainWord (wordsSigns P.initOrder.toList) = ['c', 'u', 't'] :: r) (k : (stripLifts liftWords (['c', 'u', 't'] :: r)).1 = []) : P.liftsFinal = false := by
  unfold Program.liftsFinal Program.headLifts
  rw [h]
  simp [k]
theorem en_cut {P : Program} {r : List (List Char)} (h : behindMainWord (wordsSigns P.initOrder.toList) = ['c', 'u', 't'] :: r) (k1 : (stripLifts liftWords (['c', 'u', 't'] :: r)).1 = []) (k2 : ((stripLifts liftWords (['c', 'u', 't'] :: r)).2.head? == some "cut".toList) = true) (h1 : P.laysLater = false) (h2 : P.bearsReflect = false) (h3 : P.doorFits [] = true) : P.mayEnter = true := by
  unfold Program.mayEnter
  rw [h]
  simp only [k1, k2, h1, h2, h3]
  simp
theorem make : Try.prog.make = some .cut := mk_cut iniW
theorem lifted : Try.prog.liftsFinal = false := lf_cut iniW (by kernel_rfl)
theorem enter : Try.prog.mayEnter = true := en_cut iniW (by kernel_rfl) (by kernel_rfl) (by kernel_rfl) (by kernel_rfl) (by kernel_rfl)
end Go.Proofs.Ytgobnfeahffnaaa.Cf
end

