/- A part of the proof of FnExactStateOfTree. -/
import Derived.Test.YtjecgolakaiddaaBFnExactStateOfTree3
import Derived.Test.YtjecgolakaiddaaBFnExactStateOfTree0
import Derived.Test.YtjecgolakaiddaaBFnExactStateOfTree2
import Derived.Test.YtjecgolakaiddaaBFnExactStateOfTree1
import Derived.Deep.Slices
import Derived.Lib.SmallJoins
import Derived.ChangeSame
import Derived.Test.YtjecgolakaiddaaRows
import Derived.JoinedOf
import Derived.KernelRfl
section
namespace Go.Proofs.Ytjecgolakaiddaa.Cf
set_option linter.unusedVariables false
set_option linter.unusedSimpArgs false
open Go.RowKit Go.Proofs.YtjecgolakaiddaaW.PrintWords Go.Proofs.Ytjecgolakaiddaa.P
/-- Where the graph is valid. -/
structure Gr (n : Nat) (es : List E) (q : Int) : Prop where
  n1 : 1 ≤ n
  n6 : n ≤ 6
  hes : ∀ e ∈ es, EOk n e
  hel : es.length ≤ 12
  hj : Joined n es
  hq : 0 ≤ q ∧ q < n
theorem Gr.of {n : Nat} {es : List E} {q : Int} (h : GOk (n : Int) es) (hq : 0 ≤ q ∧ q < n) : Gr n es q := by
  obtain ⟨h1, _, h3⟩ := h
  unfold EsOk at h1
  exact ⟨by omega, by omega, h1.2.2.2, h1.2.2.1, h3, hq⟩
end Go.Proofs.Ytjecgolakaiddaa.Cf
end

section
namespace Go.Proofs.Ytjecgolakaiddaa.P
open Go.RowKit Go.Proofs.YtjecgolakaiddaaW.PrintWords Go.Proofs.YtjecgolakaiddaaW.PrintLast Go.Proofs.YtjecgolakaiddaaW.PrintMore
attribute [local go_sem] max2_int min2_int max_two min_two max_three min_three max_four min_four
set_option linter.unusedVariables false
set_option linter.unusedSimpArgs false
mutual
def spec_Multiplicity.j0 : Nat → Int → Int → Int → Bool → Int → List (S70) → Option (Int)
  | 0, _, _, _, _, _, _ => none
  | k + 1, x1, x2, x7, x24, x102000, x102001 => if x24 = true then (some 0) else (spec_Multiplicity.l0 k x1 x2 x7 x102001 (x102001.length : Int) 0)
def spec_Multiplicity.l0 : Nat → Int → Int → Int → List (S70) → Int → Int → Option (Int)
  | 0, _, _, _, _, _, _ => none
  | k + 1, x1, x2, x7, x26, x27, x28 => if x28 < x27 then (if 0 ≤ x28 then (if x28 < (x26.length : Int) then (if ((rd_T70 x26 x28).f0) = (mn x1 x2) then (if ((rd_T70 x26 x28).f1) = (mx x1 x2) then (spec_Multiplicity.l0 k x1 x2 (wrap64 (x7 + 1)) x26 x27 (wrap64 (x28 + 1))) else (spec_Multiplicity.l0 k x1 x2 x7 x26 x27 (wrap64 (x28 + 1)))) else (spec_Multiplicity.l0 k x1 x2 x7 x26 x27 (wrap64 (x28 + 1)))) else (none)) else (none)) else (some x7)
end
def spec_Multiplicity.f (k : Nat) (a0_0 : Int) (l0_1 : List (S70)) (a1 : Int) (a2 : Int) : Option (Int) := (spec_l02Vert.f a0_0 l0_1 a1).bind fun t102 => (if t102 = true then ((spec_l02Vert.f a0_0 l0_1 a2).bind fun t103 => (if t103 = true then (spec_Multiplicity.j0 k a1 a2 0 (a1 == a2) a0_0 l0_1) else (spec_Multiplicity.j0 k a1 a2 0 true a0_0 l0_1))) else (spec_Multiplicity.j0 k a1 a2 0 true a0_0 l0_1))
theorem spec_Multiplicity.mono_l : ∀ k, (∀ y0 y1 y2 y3 y4 y5, LeO (spec_Multiplicity.j0 k y0 y1 y2 y3 y4 y5) (spec_Multiplicity.j0 (k + 1) y0 y1 y2 y3 y4 y5)) ∧ (∀ y0 y1 y2 y3 y4 y5, LeO (spec_Multiplicity.l0 k y0 y1 y2 y3 y4 y5) (spec_Multiplicity.l0 (k + 1) y0 y1 y2 y3 y4 y5))
  | 0 => ⟨fun _ _ _ _ _ _ r h => by simp [spec_Multiplicity.j0] at h, fun _ _ _ _ _ _ r h => by simp [spec_Multiplicity.l0] at h⟩
  | k + 1 => by
    obtain ⟨ih0, ih1⟩ := spec_Multiplicity.mono_l k
    refine ⟨?_, ?_⟩
    · intro y0 y1 y2 y3 y4 y5
      unfold spec_Multiplicity.j0
      repeat' first
      | (with_reducible exact ih0 _ _ _ _ _ _)
      | (with_reducible exact ih1 _ _ _ _ _ _)
      | (with_reducible exact LeO.refl _)
      | (with_reducible exact LeO.none _)
      | (with_reducible refine LeO.ite ?_ ?_)
      | (with_reducible refine LeO.bind ?_ (fun _ => ?_))
      | exact ih0 _ _ _ _ _ _
      | exact ih1 _ _ _ _ _ _
      | exact LeO.none _
      | refine LeO.ite ?_ ?_
      | refine LeO.bind ?_ (fun _ => ?_)
    · intro y0 y1 y2 y3 y4 y5
      unfold spec_Multiplicity.l0
      repeat' first
      | (with_reducible exact ih0 _ _ _ _ _ _)
      | (with_reducible exact ih1 _ _ _ _ _ _)
      | (with_reducible exact LeO.refl _)
      | (with_reducible exact LeO.none _)
      | (with_reducible refine LeO.ite ?_ ?_)
      | (with_reducible refine LeO.bind ?_ (fun _ => ?_))
      | exact ih0 _ _ _ _ _ _
      | exact ih1 _ _ _ _ _ _
      | exact LeO.none _
      | refine LeO.ite ?_ ?_
      | refine LeO.bind ?_ (fun _ => ?_)
theorem spec_Multiplicity.mono : ∀ a0 a1 a2 a3 k, LeO (spec_Multiplicity.f k a0 a1 a2 a3) (spec_Multiplicity.f (k + 1) a0 a1 a2 a3) := by
  intro a0 a1 a2 a3 k; obtain ⟨ih0, ih1⟩ := spec_Multiplicity.mono_l k; unfold spec_Multiplicity.f
  repeat' first
      | (with_reducible exact ih0 _ _ _ _ _ _)
      | (with_reducible exact ih1 _ _ _ _ _ _)
      | (with_reducible exact LeO.refl _)
      | (with_reducible exact LeO.none _)
      | (with_reducible refine LeO.ite ?_ ?_)
      | (with_reducible refine LeO.bind ?_ (fun _ => ?_))
      | exact ih0 _ _ _ _ _ _
      | exact ih1 _ _ _ _ _ _
      | exact LeO.none _
      | refine LeO.ite ?_ ?_
      | refine LeO.bind ?_ (fun _ => ?_)
end Go.Proofs.Ytjecgolakaiddaa.P
end

section
namespace Go.Proofs.Ytjecgolakaiddaa.P
open Go.RowKit Go.Proofs.YtjecgolakaiddaaW.PrintWords Go.Proofs.YtjecgolakaiddaaW.PrintLast Go.Proofs.YtjecgolakaiddaaW.PrintMore
attribute [local go_sem] max2_int min2_int max_two min_two max_three min_three max_four min_four
set_option linter.unusedVariables false
set_option linter.unusedSimpArgs false
mutual
def impl_Multiplicity.j0 : Nat → Int → Int → Bool → Int → List (S70) → Option (Int)
  | 0, _, _, _, _, _ => none
  | k + 1, x1, x2, x26, x102000, x102001 => if x26 = true then (some 0) else (impl_Multiplicity.l0 k x1 x2 0 x102001 (x102001.length : Int) 0)
def impl_Multiplicity.l0 : Nat → Int → Int → Int → List (S70) → Int → Int → Option (Int)
  | 0, _, _, _, _, _, _ => none
  | k + 1, x1, x2, x7, x28, x29, x30 => if x30 < x29 then (if 0 ≤ x30 then (if x30 < (x28.length : Int) then (if ((rd_T70 x28 x30).f0) = (mn x1 x2) then (if ((rd_T70 x28 x30).f1) = (mx x1 x2) then (impl_Multiplicity.l0 k x1 x2 (wrap64 (x7 + 1)) x28 x29 (wrap64 (x30 + 1))) else (impl_Multiplicity.l0 k x1 x2 x7 x28 x29 (wrap64 (x30 + 1)))) else (impl_Multiplicity.l0 k x1 x2 x7 x28 x29 (wrap64 (x30 + 1)))) else (none)) else (none)) else (some x7)
end
def impl_Multiplicity.f (k : Nat) (a0_0 : Int) (l0_1 : List (S70)) (a1 : Int) (a2 : Int) : Option (Int) := if (mn a1 a2) < 0 then (impl_Multiplicity.j0 k a1 a2 true a0_0 l0_1) else (if (mx a1 a2) ≥ a0_0 then (impl_Multiplicity.j0 k a1 a2 true a0_0 l0_1) else (impl_Multiplicity.j0 k a1 a2 (a1 == a2) a0_0 l0_1))
theorem impl_Multiplicity.mono_l : ∀ k, (∀ y0 y1 y2 y3 y4, LeO (impl_Multiplicity.j0 k y0 y1 y2 y3 y4) (impl_Multiplicity.j0 (k + 1) y0 y1 y2 y3 y4)) ∧ (∀ y0 y1 y2 y3 y4 y5, LeO (impl_Multiplicity.l0 k y0 y1 y2 y3 y4 y5) (impl_Multiplicity.l0 (k + 1) y0 y1 y2 y3 y4 y5))
  | 0 => ⟨fun _ _ _ _ _ r h => by simp [impl_Multiplicity.j0] at h, fun _ _ _ _ _ _ r h => by simp [impl_Multiplicity.l0] at h⟩
  | k + 1 => by
    obtain ⟨ih0, ih1⟩ := impl_Multiplicity.mono_l k
    refine ⟨?_, ?_⟩
    · intro y0 y1 y2 y3 y4
      unfold impl_Multiplicity.j0
      repeat' first
      | (with_reducible exact ih0 _ _ _ _ _)
      | (with_reducible exact ih1 _ _ _ _ _ _)
      | (with_reducible exact LeO.refl _)
      | (with_reducible exact LeO.none _)
      | (with_reducible refine LeO.ite ?_ ?_)
      | (with_reducible refine LeO.bind ?_ (fun _ => ?_))
      | exact ih0 _ _ _ _ _
      | exact ih1 _ _ _ _ _ _
      | exact LeO.none _
      | refine LeO.ite ?_ ?_
      | refine LeO.bind ?_ (fun _ => ?_)
    · intro y0 y1 y2 y3 y4 y5
      unfold impl_Multiplicity.l0
      repeat' first
      | (with_reducible exact ih0 _ _ _ _ _)
      | (with_reducible exact ih1 _ _ _ _ _ _)
      | (with_reducible exact LeO.refl _)
      | (with_reducible exact LeO.none _)
      | (with_reducible refine LeO.ite ?_ ?_)
      | (with_reducible refine LeO.bind ?_ (fun _ => ?_))
      | exact ih0 _ _ _ _ _
      | exact ih1 _ _ _ _ _ _
      | exact LeO.none _
      | refine LeO.ite ?_ ?_
      | refine LeO.bind ?_ (fun _ => ?_)
theorem impl_Multiplicity.mono : ∀ a0 a1 a2 a3 k, LeO (impl_Multiplicity.f k a0 a1 a2 a3) (impl_Multiplicity.f (k + 1) a0 a1 a2 a3) := by
  intro a0 a1 a2 a3 k; obtain ⟨ih0, ih1⟩ := impl_Multiplicity.mono_l k; unfold impl_Multiplicity.f
  repeat' first
      | (with_reducible exact ih0 _ _ _ _ _)
      | (with_reducible exact ih1 _ _ _ _ _ _)
      | (with_reducible exact LeO.refl _)
      | (with_reducible exact LeO.none _)
      | (with_reducible refine LeO.ite ?_ ?_)
      | (with_reducible refine LeO.bind ?_ (fun _ => ?_))
      | exact ih0 _ _ _ _ _
      | exact ih1 _ _ _ _ _ _
      | exact LeO.none _
      | refine LeO.ite ?_ ?_
      | refine LeO.bind ?_ (fun _ => ?_)
end Go.Proofs.Ytjecgolakaiddaa.P
end

section
namespace Go.Proofs.Ytjecgolakaiddaa.P
open Go.RowKit Go.Proofs.YtjecgolakaiddaaW.PrintWords Go.Proofs.YtjecgolakaiddaaW.PrintLast Go.Proofs.YtjecgolakaiddaaW.PrintMore
attribute [local go_sem] max2_int min2_int max_two min_two max_three min_three max_four min_four
set_option linter.unusedVariables false
set_option linter.unusedSimpArgs false
mutual
def spec_l05Burn.l0 : Nat → List Int → List Int → List Bool → Int → List (S70) → Option (List Int)
  | 0, _, _, _, _, _ => none
  | k + 1, x1, x7, x8, x102000, x102001 => spec_l05Burn.l1 k x1 x7 x8 (-1) (wrap64 (x102000 - 1)) x102000 x102001
def spec_l05Burn.l1 : Nat → List Int → List Int → List Bool → Int → Int → Int → List (S70) → Option (List Int)
  | 0, _, _, _, _, _, _, _ => none
  | k + 1, x1, x7, x8, x9, x10, x102000, x102001 => if x10 ≥ 0 then (spec_l05Burn.l2 k x1 x7 x8 x9 x10 0 0 x102000 x102001) else (if x9 < 0 then (some x7) else (if 0 ≤ x9 then (if x9 < (x8.length : Int) then (if x7.length < 17592186044416 then (spec_l05Burn.l0 k x1 (x7 ++ [x9]) (x8.set (x9 : Int).toNat true) x102000 x102001) else (none)) else (none)) else (none)))
def spec_l05Burn.l2 : Nat → List Int → List Int → List Bool → Int → Int → Int → Int → Int → List (S70) → Option (List Int)
  | 0, _, _, _, _, _, _, _, _, _ => none
  | k + 1, x1, x7, x8, x9, x10, x11, x12, x102000, x102001 => if x12 < x102000 then (if 0 ≤ x12 then (if x12 < (x8.length : Int) then (if rdOf false x8 x12 = true then ((spec_Multiplicity.f k x102000 x102001 x10 x12).bind fun t114 => (spec_l05Burn.l2 k x1 x7 x8 x9 x10 (wrap64 (x11 + t114)) (wrap64 (x12 + 1)) x102000 x102001)) else (spec_l05Burn.l2 k x1 x7 x8 x9 x10 x11 (wrap64 (x12 + 1)) x102000 x102001)) else (none)) else (none)) else (if 0 ≤ x10 then (if x10 < (x8.length : Int) then (if rdOf false x8 x10 = true then (spec_l05Burn.l1 k x1 x7 x8 x9 (wrap64 (x10 - 1)) x102000 x102001) else (if x10 < (x1.length : Int) then (if (rd x1 x10) < x11 then (spec_l05Burn.l1 k x1 x7 x8 x10 (wrap64 (x10 - 1)) x102000 x102001) else (spec_l05Burn.l1 k x1 x7 x8 x9 (wrap64 (x10 - 1)) x102000 x102001)) else (none))) else (none)) else (none))
end
def spec_l05Burn.f (k : Nat) (a0_0 : Int) (l0_1 : List (S70)) (l1 : List Int) (a2 : Int) : Option (List Int) := if 0 ≤ a0_0 then (if (a0_0 : Int).toNat ≤ 281474976710656 then ((some (List.replicate (a0_0 : Int).toNat false : List Bool)).bind fun y105 => (if 0 ≤ a2 then (if a2 < (y105.length : Int) then (spec_l05Burn.l0 k l1 (([a2] : List Int)) (y105.set (a2 : Int).toNat true) a0_0 l0_1) else (none)) else (none))) else (none)) else (none)
theorem spec_l05Burn.mono_l : ∀ k, (∀ y0 y1 y2 y3 y4, LeO (spec_l05Burn.l0 k y0 y1 y2 y3 y4) (spec_l05Burn.l0 (k + 1) y0 y1 y2 y3 y4)) ∧ (∀ y0 y1 y2 y3 y4 y5 y6, LeO (spec_l05Burn.l1 k y0 y1 y2 y3 y4 y5 y6) (spec_l05Burn.l1 (k + 1) y0 y1 y2 y3 y4 y5 y6)) ∧ (∀ y0 y1 y2 y3 y4 y5 y6 y7 y8, LeO (spec_l05Burn.l2 k y0 y1 y2 y3 y4 y5 y6 y7 y8) (spec_l05Burn.l2 (k + 1) y0 y1 y2 y3 y4 y5 y6 y7 y8))
  | 0 => ⟨fun _ _ _ _ _ r h => by simp [spec_l05Burn.l0] at h, fun _ _ _ _ _ _ _ r h => by simp [spec_l05Burn.l1] at h, fun _ _ _ _ _ _ _ _ _ r h => by simp [spec_l05Burn.l2] at h⟩
  | k + 1 => by
    obtain ⟨ih0, ih1, ih2⟩ := spec_l05Burn.mono_l k
    refine ⟨?_, ?_, ?_⟩
    · intro y0 y1 y2 y3 y4
      unfold spec_l05Burn.l0
      repeat' first
      | (with_reducible exact ih0 _ _ _ _ _)
      | (with_reducible exact ih1 _ _ _ _ _ _ _)
      | (with_reducible exact ih2 _ _ _ _ _ _ _ _ _)
      | (with_reducible exact spec_Multiplicity.mono _ _ _ _ _)
      | (with_reducible exact LeO.refl _)
      | (with_reducible exact LeO.none _)
      | (with_reducible refine LeO.ite ?_ ?_)
      | (with_reducible refine LeO.bind ?_ (fun _ => ?_))
      | exact ih0 _ _ _ _ _
      | exact ih1 _ _ _ _ _ _ _
      | exact ih2 _ _ _ _ _ _ _ _ _
      | exact spec_Multiplicity.mono _ _ _ _ _
      | exact LeO.none _
      | refine LeO.ite ?_ ?_
      | refine LeO.bind ?_ (fun _ => ?_)
    · intro y0 y1 y2 y3 y4 y5 y6
      unfold spec_l05Burn.l1
      repeat' first
      | (with_reducible exact ih0 _ _ _ _ _)
      | (with_reducible exact ih1 _ _ _ _ _ _ _)
      | (with_reducible exact ih2 _ _ _ _ _ _ _ _ _)
      | (with_reducible exact spec_Multiplicity.mono _ _ _ _ _)
      | (with_reducible exact LeO.refl _)
      | (with_reducible exact LeO.none _)
      | (with_reducible refine LeO.ite ?_ ?_)
      | (with_reducible refine LeO.bind ?_ (fun _ => ?_))
      | exact ih0 _ _ _ _ _
      | exact ih1 _ _ _ _ _ _ _
      | exact ih2 _ _ _ _ _ _ _ _ _
      | exact spec_Multiplicity.mono _ _ _ _ _
      | exact LeO.none _
      | refine LeO.ite ?_ ?_
      | refine LeO.bind ?_ (fun _ => ?_)
    · intro y0 y1 y2 y3 y4 y5 y6 y7 y8
      unfold spec_l05Burn.l2
      repeat' first
      | (with_reducible exact ih0 _ _ _ _ _)
      | (with_reducible exact ih1 _ _ _ _ _ _ _)
      | (with_reducible exact ih2 _ _ _ _ _ _ _ _ _)
      | (with_reducible exact spec_Multiplicity.mono _ _ _ _ _)
      | (with_reducible exact LeO.refl _)
      | (with_reducible exact LeO.none _)
      | (with_reducible refine LeO.ite ?_ ?_)
      | (with_reducible refine LeO.bind ?_ (fun _ => ?_))
      | exact ih0 _ _ _ _ _
      | exact ih1 _ _ _ _ _ _ _
      | exact ih2 _ _ _ _ _ _ _ _ _
      | exact spec_Multiplicity.mono _ _ _ _ _
      | exact LeO.none _
      | refine LeO.ite ?_ ?_
      | refine LeO.bind ?_ (fun _ => ?_)
theorem spec_l05Burn.mono : ∀ a0 a1 a2 a3 k, LeO (spec_l05Burn.f k a0 a1 a2 a3) (spec_l05Burn.f (k + 1) a0 a1 a2 a3) := by
  intro a0 a1 a2 a3 k; obtain ⟨ih0, ih1, ih2⟩ := spec_l05Burn.mono_l k; unfold spec_l05Burn.f
  repeat' first
      | (with_reducible exact ih0 _ _ _ _ _)
      | (with_reducible exact ih1 _ _ _ _ _ _ _)
      | (with_reducible exact ih2 _ _ _ _ _ _ _ _ _)
      | (with_reducible exact spec_Multiplicity.mono _ _ _ _ _)
      | (with_reducible exact LeO.refl _)
      | (with_reducible exact LeO.none _)
      | (with_reducible refine LeO.ite ?_ ?_)
      | (with_reducible refine LeO.bind ?_ (fun _ => ?_))
      | exact ih0 _ _ _ _ _
      | exact ih1 _ _ _ _ _ _ _
      | exact ih2 _ _ _ _ _ _ _ _ _
      | exact spec_Multiplicity.mono _ _ _ _ _
      | exact LeO.none _
      | refine LeO.ite ?_ ?_
      | refine LeO.bind ?_ (fun _ => ?_)
end Go.Proofs.Ytjecgolakaiddaa.P
end

section
namespace Go.Proofs.Ytjecgolakaiddaa.P
open Go.RowKit Go.Proofs.YtjecgolakaiddaaW.PrintWords Go.Proofs.YtjecgolakaiddaaW.PrintLast Go.Proofs.YtjecgolakaiddaaW.PrintMore
attribute [local go_sem] max2_int min2_int max_two min_two max_three min_three max_four min_four
set_option linter.unusedVariables false
set_option linter.unusedSimpArgs false
mutual
def impl_burn.l0 : Nat → List Int → List Int → Int → List (S70) → Option (List Int)
  | 0, _, _, _, _ => none
  | k + 1, x1, x7, x102000, x102001 => impl_burn.l1 k x1 x7 (-1) 0 x102000 x102001
def impl_burn.l1 : Nat → List Int → List Int → Int → Int → Int → List (S70) → Option (List Int)
  | 0, _, _, _, _, _, _ => none
  | k + 1, x1, x7, x8, x9, x102000, x102001 => if x9 < x102000 then (impl_burn.j2 k x1 x7 x8 x9 (decide (x8 < 0)) x102000 x102001) else (impl_burn.j2 k x1 x7 x8 x9 false x102000 x102001)
def impl_burn.j2 : Nat → List Int → List Int → Int → Int → Bool → Int → List (S70) → Option (List Int)
  | 0, _, _, _, _, _, _, _ => none
  | k + 1, x1, x7, x8, x9, x22, x102000, x102001 => if x22 = true then (impl_burn.l2 k x1 x7 x8 x9 0 x7 (x7.length : Int) 0 x102000 x102001) else (if x8 < 0 then (some x7) else (if x7.length < 17592186044416 then (impl_burn.l0 k x1 (x7 ++ [x8]) x102000 x102001) else (none)))
def impl_burn.l2 : Nat → List Int → List Int → Int → Int → Int → List Int → Int → Int → Int → List (S70) → Option (List Int)
  | 0, _, _, _, _, _, _, _, _, _, _ => none
  | k + 1, x1, x7, x8, x9, x10, x25, x26, x27, x102000, x102001 => if x27 < x26 then (if 0 ≤ x27 then (if x27 < (x25.length : Int) then ((impl_Multiplicity.f k x102000 x102001 x9 (rd x25 x27)).bind fun t109 => (impl_burn.l2 k x1 x7 x8 x9 (wrap64 (x10 + t109)) x25 x26 (wrap64 (x27 + 1)) x102000 x102001)) else (none)) else (none)) else ((slices_Contains_int_int.f k x7 x9).bind fun t110 => (if t110 = true then (impl_burn.l1 k x1 x7 x8 (wrap64 (x9 + 1)) x102000 x102001) else (if 0 ≤ x9 then (if x9 < (x1.length : Int) then (if (rd x1 x9) < x10 then (impl_burn.l1 k x1 x7 x9 (wrap64 (x9 + 1)) x102000 x102001) else (impl_burn.l1 k x1 x7 x8 (wrap64 (x9 + 1)) x102000 x102001)) else (none)) else (none))))
end
def impl_burn.f (k : Nat) (a0_0 : Int) (l0_1 : List (S70)) (l1 : List Int) (a2 : Int) : Option (List Int) := impl_burn.l0 k l1 (([a2] : List Int)) a0_0 l0_1
theorem impl_burn.mono_l : ∀ k, (∀ y0 y1 y2 y3, LeO (impl_burn.l0 k y0 y1 y2 y3) (impl_burn.l0 (k + 1) y0 y1 y2 y3)) ∧ (∀ y0 y1 y2 y3 y4 y5, LeO (impl_burn.l1 k y0 y1 y2 y3 y4 y5) (impl_burn.l1 (k + 1) y0 y1 y2 y3 y4 y5)) ∧ (∀ y0 y1 y2 y3 y4 y5 y6, LeO (impl_burn.j2 k y0 y1 y2 y3 y4 y5 y6) (impl_burn.j2 (k + 1) y0 y1 y2 y3 y4 y5 y6)) ∧ (∀ y0 y1 y2 y3 y4 y5 y6 y7 y8 y9, LeO (impl_burn.l2 k y0 y1 y2 y3 y4 y5 y6 y7 y8 y9) (impl_burn.l2 (k + 1) y0 y1 y2 y3 y4 y5 y6 y7 y8 y9))
  | 0 => ⟨fun _ _ _ _ r h => by simp [impl_burn.l0] at h, fun _ _ _ _ _ _ r h => by simp [impl_burn.l1] at h, fun _ _ _ _ _ _ _ r h => by simp [impl_burn.j2] at h, fun _ _ _ _ _ _ _ _ _ _ r h => by simp [impl_burn.l2] at h⟩
  | k + 1 => by
    obtain ⟨ih0, ih1, ih2, ih3⟩ := impl_burn.mono_l k
    refine ⟨?_, ?_, ?_, ?_⟩
    · intro y0 y1 y2 y3
      unfold impl_burn.l0
      repeat' first
      | (with_reducible exact ih0 _ _ _ _)
      | (with_reducible exact ih1 _ _ _ _ _ _)
      | (with_reducible exact ih2 _ _ _ _ _ _ _)
      | (with_reducible exact ih3 _ _ _ _ _ _ _ _ _ _)
      | (with_reducible exact impl_Multiplicity.mono _ _ _ _ _)
      | (with_reducible exact slices_Contains_int_int.mono _ _ _)
      | (with_reducible exact LeO.refl _)
      | (with_reducible exact LeO.none _)
      | (with_reducible refine LeO.ite ?_ ?_)
      | (with_reducible refine LeO.bind ?_ (fun _ => ?_))
      | exact ih0 _ _ _ _
      | exact ih1 _ _ _ _ _ _
      | exact ih2 _ _ _ _ _ _ _
      | exact ih3 _ _ _ _ _ _ _ _ _ _
      | exact impl_Multiplicity.mono _ _ _ _ _
      | exact slices_Contains_int_int.mono _ _ _
      | exact LeO.none _
      | refine LeO.ite ?_ ?_
      | refine LeO.bind ?_ (fun _ => ?_)
    · intro y0 y1 y2 y3 y4 y5
      unfold impl_burn.l1
      repeat' first
      | (with_reducible exact ih0 _ _ _ _)
      | (with_reducible exact ih1 _ _ _ _ _ _)
      | (with_reducible exact ih2 _ _ _ _ _ _ _)
      | (with_reducible exact ih3 _ _ _ _ _ _ _ _ _ _)
      | (with_reducible exact impl_Multiplicity.mono _ _ _ _ _)
      | (with_reducible exact slices_Contains_int_int.mono _ _ _)
      | (with_reducible exact LeO.refl _)
      | (with_reducible exact LeO.none _)
      | (with_reducible refine LeO.ite ?_ ?_)
      | (with_reducible refine LeO.bind ?_ (fun _ => ?_))
      | exact ih0 _ _ _ _
      | exact ih1 _ _ _ _ _ _
      | exact ih2 _ _ _ _ _ _ _
      | exact ih3 _ _ _ _ _ _ _ _ _ _
      | exact impl_Multiplicity.mono _ _ _ _ _
      | exact slices_Contains_int_int.mono _ _ _
      | exact LeO.none _
      | refine LeO.ite ?_ ?_
      | refine LeO.bind ?_ (fun _ => ?_)
    · intro y0 y1 y2 y3 y4 y5 y6
      unfold impl_burn.j2
      repeat' first
      | (with_reducible exact ih0 _ _ _ _)
      | (with_reducible exact ih1 _ _ _ _ _ _)
      | (with_reducible exact ih2 _ _ _ _ _ _ _)
      | (with_reducible exact ih3 _ _ _ _ _ _ _ _ _ _)
      | (with_reducible exact impl_Multiplicity.mono _ _ _ _ _)
      | (with_reducible exact slices_Contains_int_int.mono _ _ _)
      | (with_reducible exact LeO.refl _)
      | (with_reducible exact LeO.none _)
      | (with_reducible refine LeO.ite ?_ ?_)
      | (with_reducible refine LeO.bind ?_ (fun _ => ?_))
      | exact ih0 _ _ _ _
      | exact ih1 _ _ _ _ _ _
      | exact ih2 _ _ _ _ _ _ _
      | exact ih3 _ _ _ _ _ _ _ _ _ _
      | exact impl_Multiplicity.mono _ _ _ _ _
      | exact slices_Contains_int_int.mono _ _ _
      | exact LeO.none _
      | refine LeO.ite ?_ ?_
      | refine LeO.bind ?_ (fun _ => ?_)
    · intro y0 y1 y2 y3 y4 y5 y6 y7 y8 y9
      unfold impl_burn.l2
      repeat' first
      | (with_reducible exact ih0 _ _ _ _)
      | (with_reducible exact ih1 _ _ _ _ _ _)
      | (with_reducible exact ih2 _ _ _ _ _ _ _)
      | (with_reducible exact ih3 _ _ _ _ _ _ _ _ _ _)
      | (with_reducible exact impl_Multiplicity.mono _ _ _ _ _)
      | (with_reducible exact slices_Contains_int_int.mono _ _ _)
      | (with_reducible exact LeO.refl _)
      | (with_reducible exact LeO.none _)
      | (with_reducible refine LeO.ite ?_ ?_)
      | (with_reducible refine LeO.bind ?_ (fun _ => ?_))
      | exact ih0 _ _ _ _
      | exact ih1 _ _ _ _ _ _
      | exact ih2 _ _ _ _ _ _ _
      | exact ih3 _ _ _ _ _ _ _ _ _ _
      | exact impl_Multiplicity.mono _ _ _ _ _
      | exact slices_Contains_int_int.mono _ _ _
      | exact LeO.none _
      | refine LeO.ite ?_ ?_
      | refine LeO.bind ?_ (fun _ => ?_)
theorem impl_burn.mono : ∀ a0 a1 a2 a3 k, LeO (impl_burn.f k a0 a1 a2 a3) (impl_burn.f (k + 1) a0 a1 a2 a3) := by
  intro a0 a1 a2 a3 k; obtain ⟨ih0, ih1, ih2, ih3⟩ := impl_burn.mono_l k; unfold impl_burn.f
  repeat' first
      | (with_reducible exact ih0 _ _ _ _)
      | (with_reducible exact ih1 _ _ _ _ _ _)
      | (with_reducible exact ih2 _ _ _ _ _ _ _)
      | (with_reducible exact ih3 _ _ _ _ _ _ _ _ _ _)
      | (with_reducible exact impl_Multiplicity.mono _ _ _ _ _)
      | (with_reducible exact slices_Contains_int_int.mono _ _ _)
      | (with_reducible exact LeO.refl _)
      | (with_reducible exact LeO.none _)
      | (with_reducible refine LeO.ite ?_ ?_)
      | (with_reducible refine LeO.bind ?_ (fun _ => ?_))
      | exact ih0 _ _ _ _
      | exact ih1 _ _ _ _ _ _
      | exact ih2 _ _ _ _ _ _ _
      | exact ih3 _ _ _ _ _ _ _ _ _ _
      | exact impl_Multiplicity.mono _ _ _ _ _
      | exact slices_Contains_int_int.mono _ _ _
      | exact LeO.none _
      | refine LeO.ite ?_ ?_
      | refine LeO.bind ?_ (fun _ => ?_)
end Go.Proofs.Ytjecgolakaiddaa.P
end

section
namespace Go.Proofs.Ytjecgolakaiddaa.Cf
set_option linter.unusedVariables false
set_option linter.unusedSimpArgs false
open Go.RowKit Go.Proofs.YtjecgolakaiddaaW.PrintWords Go.Proofs.YtjecgolakaiddaaW.PrintMore Go.Proofs.Ytjecgolakaiddaa.P
/-- The first place, counted from i; or -1. -/
def idxF (x : Int) : List Int → Nat → Int
  | [], _ => -1
  | a :: r, i => if x = a then i else idxF x r (i + 1)
theorem idxF_drop {l : List Int} {i : Nat} (h : i < l.length) (x : Int) (j : Nat) : idxF x (l.drop i) j = if x = l[i] then (j : Int) else idxF x (l.drop (i + 1)) (j + 1) := by
  rw [List.drop_eq_getElem_cons h]
  rfl
theorem idxF_mem (x : Int) : ∀ (l : List Int) (i : Nat), 0 ≤ idxF x l i ↔ x ∈ l
  | [], i => by simp [idxF]
  | a :: r, i => by
    unfold idxF
    by_cases h : x = a
    · rw [if_pos h, h]; simp
    · rw [if_neg h, idxF_mem x r (i + 1)]; simp [h]
theorem index_l0 (l : List Int) (x : Int) (hl : l.length ≤ 1048576) : ∀ (d i : Nat), i + d = l.length → Ep (fun k => slices_Index_int_int.l0 k l x (l.length : Int) (i : Int)) (· = idxF x (l.drop i) i) := by
  intro d
  induction d with
  | zero =>
    intro i hi
    refine Ep.up ?_
    simp only [slices_Index_int_int.l0]
    refine Ep.neg (by omega) (Ep.now ?_)
    rw [List.drop_of_length_le (by omega)]
    rfl
  | succ d ih =>
    intro i hi
    have hlt : i < l.length := by omega
    refine Ep.up ?_
    simp only [slices_Index_int_int.l0]
    refine Ep.pos (by omega) (Ep.pos (by omega) (Ep.pos (by omega) ?_))
    rw [rd_get hlt, wrap_succ (by omega), idxF_drop hlt]
    refine Ep.ite (fun h => Ep.now ?_) (fun h => ?_)
    · rw [if_pos h]
    · rw [if_neg h]
      exact ih (i + 1) (by omega)
theorem index_ok (l : List Int) (x : Int) (hl : l.length ≤ 1048576) : Ep (fun k => slices_Index_int_int.f k l x) (· = idxF x l 0) := by
  have := index_l0 l x hl l.length 0 (by omega)
  simp only [slices_Index_int_int.f]
  exact this
theorem contains_ok (l : List Int) (x : Int) (hl : l.length ≤ 1048576) : Ep (fun k => slices_Contains_int_int.f k l x) (· = decide (x ∈ l)) := by
  simp only [slices_Contains_int_int.f]
  refine Ep.bind (index_ok l x hl) ?_
  rintro _ rfl
  refine Ep.now ?_
  have := idxF_mem x l 0
  simp only [ge_iff_le, this]
end Go.Proofs.Ytjecgolakaiddaa.Cf
end

section
namespace Go.Proofs.Ytjecgolakaiddaa.Cf
set_option linter.unusedVariables false
set_option linter.unusedSimpArgs false
open Go.RowKit Go.Proofs.YtjecgolakaiddaaW.PrintWords Go.Proofs.Ytjecgolakaiddaa.P
/-- One edge of the tree is looked at from u. -/
def stStep (es : List E) (u : Int) (s : List Int × List Int) (k : Int) : List Int × List Int :=
  if (es.getD k.toNat ⟨0, 0⟩).f0 = u ∨ (es.getD k.toNat ⟨0, 0⟩).f1 = u then
    (if (es.getD k.toNat ⟨0, 0⟩).f0 + (es.getD k.toNat ⟨0, 0⟩).f1 - u ∈ s.2 then s
     else (s.1.set ((es.getD k.toNat ⟨0, 0⟩).f0 + (es.getD k.toNat ⟨0, 0⟩).f1 - u).toNat k, s.2 ++ [(es.getD k.toNat ⟨0, 0⟩).f0 + (es.getD k.toNat ⟨0, 0⟩).f1 - u]))
  else s
def stScan (es : List E) (u : Int) (l : List Int) (s : List Int × List Int) : List Int × List Int := l.foldl (stStep es u) s
def stRun (es : List E) (l : List Int) : Nat → Nat → List Int × List Int → List Int
  | 0, _, s => s.1
  | d + 1, i, s => if i < s.2.length then stRun es l d (i + 1) (stScan es (rd s.2 (i : Int)) l s) else s.1
/-- What holds of the state. -/
structure SI (n : Nat) (x q : List Int) : Prop where
  len : x.length = n
  nd : q.Nodup
  rng : ∀ v ∈ q, 0 ≤ v ∧ v < n
theorem SI.qlen {n : Nat} {x q : List Int} (h : SI n x q) : q.length ≤ n := nodup_len n q h.nd h.rng
theorem SI.push {n : Nat} {x q : List Int} (h : SI n x q) {w : Int} (h0 : 0 ≤ w) (h1 : w < n) (hm : w ∉ q) (k : Int) : SI n (x.set w.toNat k) (q ++ [w]) where
  len := by rw [List.length_set]; exact h.len
  nd := by
    rw [List.nodup_append]
    exact ⟨h.nd, by simp, fun a ha c hc => by
      rw [List.mem_singleton.1 hc]
      rintro rfl
      exact hm ha⟩
  rng := fun v hv => by
    rcases List.mem_append.1 hv with hv | hv
    · exact h.rng v hv
    · rw [List.mem_singleton.1 hv]; exact ⟨h0, h1⟩
theorem rd_push {q : List Int} {i : Nat} (h : i < q.length) (w : Int) : rd (q ++ [w]) (i : Int) = rd q (i : Int) := by
  rw [rd_get h, rd_get (show i < (q ++ [w]).length by simp; omega), List.getElem_append_left h]
theorem scan_drop {es : List E} {u : Int} {l : List Int} {i : Nat} (h : i < l.length) (s : List Int × List Int) : stScan es u (l.drop i) s = stScan es u (l.drop (i + 1)) (stStep es u s l[i]) := by
  rw [List.drop_eq_getElem_cons h]
  rfl
theorem stStep_off {es : List E} {u k : Int} {m : Nat} (hk : k = m) (hm : m < es.length) (h : ¬ (es[m].f0 = u ∨ es[m].f1 = u)) (s : List Int × List Int) : stStep es u s k = s := by
  subst hk
  unfold stStep
  have e : es.getD ((m : Int)).toNat ⟨0, 0⟩ = es[m] := by simp [List.getD, hm]
  rw [e, if_neg h]
theorem stStep_has {es : List E} {u k : Int} {m : Nat} (hk : k = m) (hm : m < es.length) {s : List Int × List Int} (h2 : es[m].f0 + es[m].f1 - u ∈ s.2) : stStep es u s k = s := by
  subst hk
  unfold stStep
  have e : es.getD ((m : Int)).toNat ⟨0, 0⟩ = es[m] := by simp [List.getD, hm]
  rw [e, if_pos h2]
  split <;> rfl
theorem stStep_new {es : List E} {u k : Int} {m : Nat} (hk : k = m) (hm : m < es.length) (h : es[m].f0 = u ∨ es[m].f1 = u) {s : List Int × List Int} (h2 : ¬ es[m].f0 + es[m].f1 - u ∈ s.2) : stStep es u s k = (s.1.set (es[m].f0 + es[m].f1 - u).toNat k, s.2 ++ [es[m].f0 + es[m].f1 - u]) := by
  subst hk
  unfold stStep
  have e : es.getD ((m : Int)).toNat ⟨0, 0⟩ = es[m] := by simp [List.getD, hm]
  rw [e, if_pos h, if_neg h2]
theorem specSt_l2 (n : Nat) (hn : n ≤ 6) (es : List E) (hel : es.length ≤ 12) (hes : ∀ e ∈ es, EOk n e) (l : List Int) (hl : l.length ≤ 6) (hr : InR es l l.length) (at' : Nat) (u : Int) (hu : 0 ≤ u ∧ u < n) (fin : List Int × List Int) {Q : List Int → Prop}
    (hk : SI n fin.1 fin.2 → Ep (fun k => spec_l15State.l1 k l fin.1 fin.2 (wrap64 ((at' : Int) + 1)) (n : Int) es) Q) :
    ∀ (d i : Nat) (x q : List Int), i + d = l.length → SI n x q → at' < q.length → rd q (at' : Int) = u → stScan es u (l.drop i) (x, q) = fin → Ep (fun k => spec_l15State.l2 k l x q (at' : Int) l (l.length : Int) (i : Int) (n : Int) es) Q := by
  intro d
  induction d with
  | zero =>
    intro i x q hi hs _ _ hf
    rw [List.drop_of_length_le (by omega)] at hf
    have e : fin = (x, q) := hf.symm
    subst e
    refine Ep.up ?_
    simp only [spec_l15State.l2]
    exact Ep.neg (by omega) (hk hs)
  | succ d ih =>
    intro i x q hi hs hat hrd hf
    have hlt : i < l.length := by omega
    have hql := hs.qlen
    have hxl := hs.len
    have hki := hr i hlt hlt
    obtain ⟨m, hm⟩ := Int.eq_ofNat_of_zero_le hki.1
    have hml : m < es.length := by omega
    have he := hes _ (List.getElem_mem hml)
    unfold EOk at he
    rw [scan_drop hlt] at hf
    refine Ep.up ?_
    simp only [spec_l15State.l2]
    rw [wrap_succ (by omega)]
    refine Ep.pos (by omega) (Ep.pos (by omega) (Ep.pos (by omega) ?_))
    rw [rd_get hlt, hm]
    refine Ep.pos (by omega) (Ep.pos (by omega) (Ep.pos (by omega) (Ep.pos (by omega) ?_)))
    rw [rdE_get hml, hrd]
    have go : (es[m].f0 = u ∨ es[m].f1 = u) → Ep (fun k => spec_l15State.j3 k l x q (at' : Int) (m : Int) l (l.length : Int) (i : Int) false (n : Int) es es[m].f0 es[m].f1) Q := by
      intro h
      refine Ep.up ?_
      simp only [spec_l15State.j3]
      rw [hrd, wrap_succ (by omega)]
      refine Ep.neg (by simp) (Ep.pos (by omega) (Ep.pos (by omega) ?_))
      refine Ep.bind0 (other_eq _ _ _ (by omega) (by omega)) ?_
      refine Ep.bind (specHas q _ (by omega)) ?_
      rintro _ rfl
      refine Ep.ite (fun h2 => ?_) (fun h2 => ?_)
      · have h2' : es[m].f0 + es[m].f1 - u ∈ q := by simpa using h2
        rw [stStep_has hm hml (s := (x, q)) h2'] at hf
        exact ih (i + 1) x q (by omega) hs hat hrd hf
      · have h2' : ¬ es[m].f0 + es[m].f1 - u ∈ q := by simpa using h2
        rw [stStep_new hm hml h (s := (x, q)) h2', hm] at hf
        refine Ep.pos (by omega) (Ep.pos (by omega) (Ep.pos (by omega) ?_))
        exact ih (i + 1) _ _ (by omega) (hs.push (by omega) (by omega) h2' _) (by simp; omega) (by rw [rd_push hat]; exact hrd) hf
    refine Ep.ite (fun h => go (.inl h)) (fun h => ?_)
    by_cases h2 : es[m].f1 = u
    · have e : (es[m].f1 != u) = false := by simp [h2]
      rw [e]
      exact go (.inr h2)
    · have e : (es[m].f1 != u) = true := by simp [h2]
      rw [e]
      refine Ep.up ?_
      simp only [spec_l15State.j3]
      rw [wrap_succ (by omega)]
      rw [stStep_off hm hml (by rintro (y | y); exact h y; exact h2 y)] at hf
      exact Ep.pos trivial (ih (i + 1) x q (by omega) hs hat hrd hf)
theorem specSt_l1 (n : Nat) (hn : n ≤ 6) (es : List E) (hel : es.length ≤ 12) (hes : ∀ e ∈ es, EOk n e) (l : List Int) (hl : l.length ≤ 6) (hr : InR es l l.length) : ∀ (d i : Nat) (x q : List Int), i + d = n + 1 → SI n x q → Ep (fun k => spec_l15State.l1 k l x q (i : Int) (n : Int) es) (· = stRun es l d i (x, q)) := by
  intro d
  induction d with
  | zero =>
    intro i x q hi hs
    have := hs.qlen
    refine Ep.up ?_
    simp only [spec_l15State.l1]
    exact Ep.neg (by omega) (Ep.now rfl)
  | succ d ih =>
    intro i x q hi hs
    have := hs.qlen
    refine Ep.up ?_
    simp only [spec_l15State.l1]
    unfold stRun
    refine Ep.ite (fun h => ?_) (fun h => Ep.now ?_)
    · have hlt : i < q.length := by omega
      rw [if_pos (show i < (x, q).2.length from hlt)]
      have hu := hs.rng _ (List.getElem_mem hlt)
      have e : rd q (i : Int) = q[i] := rd_get hlt
      refine specSt_l2 n hn es hel hes l hl hr i (rd q (i : Int)) (by rw [e]; exact hu) (stScan es (rd q (i : Int)) l (x, q)) (fun hs' => ?_) l.length 0 x q (by omega) hs hlt rfl rfl
      rw [wrap_succ (by omega)]
      exact ih (i + 1) _ _ (by omega) hs'
    · rw [if_neg (show ¬ i < (x, q).2.length by simp; omega)]
def stL (n : Nat) (es : List E) (l : List Int) (q : Int) : List Int := stRun es l (n + 1) 0 (List.replicate n (-1), [q])
theorem SI.start {n : Nat} {q : Int} (h : 0 ≤ q ∧ q < n) : SI n (List.replicate n (-1)) [q] := ⟨by simp, by simp, fun v hv => by rw [List.mem_singleton.1 hv]; exact h⟩
theorem specSt_l0 (n : Nat) (hn : n ≤ 6) (es : List E) (hel : es.length ≤ 12) (hes : ∀ e ∈ es, EOk n e) (l : List Int) (hl : l.length ≤ 6) (hr : InR es l l.length) (q : Int) (hq : 0 ≤ q ∧ q < n) : ∀ (d i : Nat), i + d = n → Ep (fun k => spec_l15State.l0 k l q (List.replicate i (-1)) (i : Int) (n : Int) es) (· = stL n es l q) := by
  intro d
  induction d with
  | zero =>
    intro i hi
    obtain rfl : i = n := by omega
    refine Ep.up ?_
    simp only [spec_l15State.l0]
    exact Ep.neg (by omega) (specSt_l1 i hn es hel hes l hl hr (i + 1) 0 _ _ (by omega) (SI.start hq))
  | succ d ih =>
    intro i hi
    refine Ep.up ?_
    simp only [spec_l15State.l0]
    rw [wrap_succ (by omega), ← List.replicate_succ']
    exact Ep.pos (by omega) (Ep.pos (by simp; omega) (ih (i + 1) (by omega)))
theorem implSt_l2 (n : Nat) (hn : n ≤ 6) (es : List E) (hel : es.length ≤ 12) (hes : ∀ e ∈ es, EOk n e) (l : List Int) (hl : l.length ≤ 6) (hr : InR es l l.length) (at' : Nat) (u : Int) (hu : 0 ≤ u ∧ u < n) (fin : List Int × List Int) {Q : List Int × Bool → Prop}
    (hk : SI n fin.1 fin.2 → Ep (fun k => impl_StateOfTree.l1 k l fin.1 fin.2 (wrap64 ((at' : Int) + 1)) (n : Int) es) Q) :
    ∀ (d i : Nat) (x q : List Int), i + d = l.length → SI n x q → at' < q.length → rd q (at' : Int) = u → stScan es u (l.drop i) (x, q) = fin → Ep (fun k => impl_StateOfTree.l2 k l x q (at' : Int) l (l.length : Int) (i : Int) (n : Int) es) Q := by
  intro d
  induction d with
  | zero =>
    intro i x q hi hs _ _ hf
    rw [List.drop_of_length_le (by omega)] at hf
    have e : fin = (x, q) := hf.symm
    subst e
    refine Ep.up ?_
    simp only [impl_StateOfTree.l2]
    exact Ep.neg (by omega) (hk hs)
  | succ d ih =>
    intro i x q hi hs hat hrd hf
    have hlt : i < l.length := by omega
    have hql := hs.qlen
    have hxl := hs.len
    have hki := hr i hlt hlt
    obtain ⟨m, hm⟩ := Int.eq_ofNat_of_zero_le hki.1
    have hml : m < es.length := by omega
    have he := hes _ (List.getElem_mem hml)
    unfold EOk at he
    rw [scan_drop hlt] at hf
    refine Ep.up ?_
    simp only [impl_StateOfTree.l2]
    rw [wrap_succ (by omega)]
    refine Ep.pos (by omega) (Ep.pos (by omega) (Ep.pos (by omega) (Ep.pos (by omega) (Ep.pos (by omega) ?_))))
    rw [rd_get hlt, hm, hrd]
    refine Ep.bind0 (isAt_eq _ _ _ _ (by omega)) ?_
    have hat2 : atB es ((m : Nat) : Int) u = true ↔ (es[m].f0 = u ∨ es[m].f1 = u) := by rw [atB_iff]; exact At.of hml
    refine Ep.ite (fun h => ?_) (fun h => ?_)
    · have h' := hat2.1 h
      refine Ep.bind0 (across_eq (n : Int) es m hml u (by omega) (by omega)) ?_
      refine Ep.bind (contains_ok q _ (by omega)) ?_
      rintro _ rfl
      refine Ep.ite (fun h2 => ?_) (fun h2 => ?_)
      · have h2' : es[m].f0 + es[m].f1 - u ∈ q := by simpa using h2
        rw [stStep_has hm hml (s := (x, q)) h2'] at hf
        exact ih (i + 1) x q (by omega) hs hat hrd hf
      · have h2' : ¬ es[m].f0 + es[m].f1 - u ∈ q := by simpa using h2
        rw [stStep_new hm hml h' (s := (x, q)) h2', hm] at hf
        refine Ep.pos (by omega) (Ep.pos (by omega) (Ep.pos (by omega) ?_))
        exact ih (i + 1) _ _ (by omega) (hs.push (by omega) (by omega) h2' _) (by simp; omega) (by rw [rd_push hat]; exact hrd) hf
    · rw [stStep_off hm hml (fun y => h (hat2.2 y))] at hf
      exact ih (i + 1) x q (by omega) hs hat hrd hf
theorem implSt_l1 (n : Nat) (hn : n ≤ 6) (es : List E) (hel : es.length ≤ 12) (hes : ∀ e ∈ es, EOk n e) (l : List Int) (hl : l.length ≤ 6) (hr : InR es l l.length) : ∀ (d i : Nat) (x q : List Int), i + d = n + 1 → SI n x q → Ep (fun k => impl_StateOfTree.l1 k l x q (i : Int) (n : Int) es) (· = (stRun es l d i (x, q), true)) := by
  intro d
  induction d with
  | zero =>
    intro i x q hi hs
    have := hs.qlen
    refine Ep.up ?_
    simp only [impl_StateOfTree.l1]
    exact Ep.neg (by omega) (Ep.now rfl)
  | succ d ih =>
    intro i x q hi hs
    have := hs.qlen
    refine Ep.up ?_
    simp only [impl_StateOfTree.l1]
    unfold stRun
    refine Ep.ite (fun h => ?_) (fun h => Ep.now ?_)
    · have hlt : i < q.length := by omega
      rw [if_pos (show i < (x, q).2.length from hlt)]
      have hu := hs.rng _ (List.getElem_mem hlt)
      have e : rd q (i : Int) = q[i] := rd_get hlt
      refine implSt_l2 n hn es hel hes l hl hr i (rd q (i : Int)) (by rw [e]; exact hu) (stScan es (rd q (i : Int)) l (x, q)) (fun hs' => ?_) l.length 0 x q (by omega) hs hlt rfl rfl
      rw [wrap_succ (by omega)]
      exact ih (i + 1) _ _ (by omega) hs'
    · rw [if_neg (show ¬ i < (x, q).2.length by simp; omega)]
theorem implSt_l0 (n : Nat) (hn : n ≤ 6) (es : List E) (hel : es.length ≤ 12) (hes : ∀ e ∈ es, EOk n e) (l : List Int) (hl : l.length ≤ 6) (hr : InR es l l.length) (q : Int) (hq : 0 ≤ q ∧ q < n) : ∀ (d i : Nat) (x : List Int), i + d = n → x.length = n → (∀ j, j < i → x[j]? = some (-1)) → Ep (fun k => impl_StateOfTree.l0 k l q x (n : Int) (i : Int) (n : Int) es) (· = (stL n es l q, true)) := by
  intro d
  induction d with
  | zero =>
    intro i x hi hx hj
    obtain rfl : i = n := by omega
    have e : x = List.replicate i (-1) := by
      apply List.ext_getElem?
      intro j
      by_cases hji : j < i
      · rw [hj j hji, List.getElem?_replicate_of_lt hji]
      · rw [List.getElem?_eq_none (by omega), List.getElem?_eq_none (by simp; omega)]
    subst e
    refine Ep.up ?_
    simp only [impl_StateOfTree.l0]
    exact Ep.neg (by omega) (implSt_l1 i hn es hel hes l hl hr (i + 1) 0 _ _ (by omega) (SI.start hq))
  | succ d ih =>
    intro i x hi hx hj
    refine Ep.up ?_
    simp only [impl_StateOfTree.l0]
    rw [wrap_succ (by omega), Int.toNat_natCast]
    refine Ep.pos (by omega) (Ep.pos (by omega) (Ep.pos (by omega) (ih (i + 1) _ (by omega) (by simpa using hx) ?_)))
    intro j hji
    by_cases e : i = j
    · subst e
      rw [List.getElem?_set_self (by omega)]
    · rw [List.getElem?_set_ne e]
      exact hj j (by omega)
noncomputable def stO (n : Int) (es : List E) (l : List Int) (q : Int) : List Int × Bool := if (treeB n es l && decide (0 ≤ q ∧ q < n)) = true then (stL n.toNat es l q, true) else ([], false)
theorem stRun_len {n : Nat} {es : List E} {l : List Int} : ∀ (d i : Nat) (s : List Int × List Int), s.1.length = n → (stRun es l d i s).length = n
  | 0, _, _, h => h
  | d + 1, i, s, h => by
    unfold stRun
    split
    · refine stRun_len d (i + 1) _ ?_
      generalize rd s.2 (i : Int) = u
      have : ∀ (l : List Int) (s : List Int × List Int), s.1.length = n → (stScan es u l s).1.length = n := by
        intro l
        induction l with
        | nil => intro s h; exact h
        | cons k r ih =>
          intro s h
          show (stScan es u r (stStep es u s k)).1.length = n
          refine ih _ ?_
          unfold stStep
          split
          · split
            · exact h
            · simpa using h
          · exact h
      exact this l s h
    · exact h
theorem stO_len (n : Int) (es : List E) (l : List Int) (q : Int) : (stO n es l q).1.length ≤ 6 := by
  unfold stO
  split
  · rename_i h
    rw [Bool.and_eq_true] at h
    have hg := (treeB_iff.1 h.1).1.1
    unfold EsOk at hg
    have := stRun_len (n := n.toNat) (es := es) (l := l) (n.toNat + 1) 0 (List.replicate n.toNat (-1), [q]) (by simp)
    show (stRun es l (n.toNat + 1) 0 (List.replicate n.toNat (-1), [q])).length ≤ 6
    omega
  · simp
theorem specStO (n : Int) (es : List E) (l : List Int) (q : Int) (hl : l.length ≤ 1048576) : Ep (fun k => spec_StateOfTree.f k n es l q) (· = stO n es l q) := by
  simp only [spec_StateOfTree.f, stO]
  refine Ep.bind (specTree n es l hl) ?_
  rintro _ rfl
  refine Ep.ite (fun h => ?_) (fun h => Ep.now ?_)
  · obtain ⟨hg, hln, hr, _, _⟩ := treeB_iff.1 h
    have hg1 := hg.1
    unfold EsOk at hg1
    obtain ⟨m, rfl⟩ := Int.eq_ofNat_of_zero_le (a := n) (by omega)
    rw [wrap_id (x := (m : Int) - 1) (by omega) (by omega), h]
    refine Ep.bind0 (l01In_eq _ _ _) ?_
    have hq : (0 ≤ q ∧ q ≤ (m : Int) - 1) ↔ (0 ≤ q ∧ q < (m : Int)) := by omega
    simp only [hq, Bool.true_and]
    refine Ep.ite (fun h2 => ?_) (fun h2 => Ep.now (by rw [if_neg h2]))
    rw [if_pos h2]
    have h2' : 0 ≤ q ∧ q < (m : Int) := by simpa using h2
    refine Ep.bind (P := (· = stL m es l q)) ?_ ?_
    · simp only [spec_l15State.f]
      exact specSt_l0 m (by omega) es hg1.2.2.1 hg1.2.2.2 l (by omega) hr q h2' m 0 (by omega)
    · rintro _ rfl
      exact Ep.now rfl
  · have : treeB n es l = false := by simpa using h
    rw [this]
    rfl
theorem implStO (n : Int) (es : List E) (l : List Int) (q : Int) (hl : l.length ≤ 1048576) : Ep (fun k => impl_StateOfTree.f k n es l q) (· = stO n es l q) := by
  simp only [impl_StateOfTree.f, stO]
  refine Ep.bind (implTree n es l hl) ?_
  rintro _ rfl
  refine Ep.ite (fun h => ?_) (fun h => ?_)
  · obtain ⟨hg, hln, hr, _, _⟩ := treeB_iff.1 h
    have hg1 := hg.1
    unfold EsOk at hg1
    obtain ⟨m, rfl⟩ := Int.eq_ofNat_of_zero_le (a := n) (by omega)
    rw [wrap_id (x := (m : Int) - 1) (by omega) (by omega), h]
    refine Ep.bind0 (within_eq _ _ _) (Ep.up ?_)
    simp only [impl_StateOfTree.j0]
    have hq : (0 ≤ q ∧ q ≤ (m : Int) - 1) ↔ (0 ≤ q ∧ q < (m : Int)) := by omega
    simp only [hq, Bool.true_and]
    refine Ep.ite (fun h2 => Ep.now ?_) (fun h2 => ?_)
    · have h3 : ¬ (0 ≤ q ∧ q < (m : Int)) := by
        intro y
        simp [y] at h2
      rw [if_neg (by rw [decide_eq_true_eq]; exact h3)]
    · have h3 : 0 ≤ q ∧ q < (m : Int) := by simpa using h2
      rw [if_pos (by rw [decide_eq_true_eq]; exact h3)]
      refine Ep.pos (by omega) (Ep.pos (by omega) (Ep.bind0 rfl ?_))
      rw [Int.toNat_natCast, List.length_replicate]
      exact implSt_l0 m (by omega) es hg1.2.2.1 hg1.2.2.2 l (by omega) hr q h3 m 0 _ (by omega) (by simp) (fun j hj => by omega)
  · refine Ep.up ?_
    simp only [impl_StateOfTree.j0]
    refine Ep.pos trivial (Ep.now ?_)
    have : treeB n es l = false := by simpa using h
    rw [this]
    rfl
end Go.Proofs.Ytjecgolakaiddaa.Cf
end

section
namespace Go.Proofs.Ytjecgolakaiddaa.Cf
set_option linter.unusedVariables false
set_option linter.unusedSimpArgs false
open Go.RowKit Go.Proofs.YtjecgolakaiddaaW.PrintWords Go.Proofs.Ytjecgolakaiddaa.P
def EWf (e : E) : Prop := Wf .i64 e.f0 ∧ Wf .i64 e.f1
theorem rdLE_get {es : List E} {i : Nat} (h : i < es.length) : rd_T96 es (i : Int) = es[i] := by simp [rd_T96, List.getD, h]
theorem szGraph_ok (n : Int) (es : List E) (a : Int) (ha : 0 ≤ a ∧ a ≤ 1048576) (hl : es.length ≤ 9223372036854775807) : ∃ t, laws_szGraph.f n es a = some t ∧ t ≤ 1048576 ∧ (¬ t < 0 → es.length ≤ 1048576) := by
  unfold laws_szGraph.f laws_szEdgeS.f
  rw [wrap_id (by omega) (by omega)]
  by_cases h : a - (es.length : Int) < 0
  · refine ⟨-1, ?_, by omega, by omega⟩
    rw [if_pos h]
    simp
  · refine ⟨a - es.length, ?_, by omega, by omega⟩
    rw [if_neg h]
    simp only [Option.bind_some]
    rw [if_neg h]
theorem toEdgeS_l0 (x0 : List E) (h : x0.length ≤ 1048576) : ∀ (d i : Nat) (x3 : List E), i + d = x0.length → x3.length = x0.length → (∀ j, j < i → x3[j]? = x0[j]?) → Ep (fun k => laws_toEdgeS.l0 k x0 x3 (i : Int)) (· = x0) := by
  intro d
  induction d with
  | zero =>
    intro i x3 hi hl hx
    refine Ep.up ?_
    simp only [laws_toEdgeS.l0]
    refine Ep.neg (by omega) (Ep.now ?_)
    apply List.ext_getElem?
    intro j
    by_cases hj : j < i
    · exact hx j hj
    · rw [List.getElem?_eq_none (by omega), List.getElem?_eq_none (by omega)]
  | succ d ih =>
    intro i x3 hi hl hx
    have hlt : i < x0.length := by omega
    refine Ep.up ?_
    simp only [laws_toEdgeS.l0]
    refine Ep.pos (by omega) (Ep.pos (by omega) ?_)
    rw [rdLE_get hlt, wrap_succ (by omega)]
    refine Ep.bind0 rfl (Ep.pos (by omega) ?_)
    refine ih (i + 1) _ (by omega) (by simpa using hl) ?_
    intro j hj
    rw [Int.toNat_natCast]
    by_cases e : i = j
    · subst e
      rw [List.getElem?_set_self (by omega), List.getElem?_eq_getElem (by omega)]
    · rw [List.getElem?_set_ne e]
      exact hx j (by omega)
theorem toGraph_ok (n : Int) (es : List E) (h : es.length ≤ 1048576) : Ep (fun k => laws_toGraph.f k n es) (· = (n, es)) := by
  simp only [laws_toGraph.f, laws_toEdgeS.f]
  refine Ep.bind (P := (· = es)) (Ep.pos (by omega) (Ep.pos (by simp; omega) ?_)) ?_
  · exact toEdgeS_l0 es h es.length 0 _ (by omega) (by simp) (fun j hj => by omega)
  · rintro _ rfl
    exact Ep.now rfl
theorem eqEdge_ok (a b : Int) : laws_eqEdge.f a b a b = some true := by simp [laws_eqEdge.f]
theorem eqEdgeS_l0 (x : List E) (h : x.length ≤ 1048576) : ∀ (d i : Nat), i + d = x.length → Ep (fun k => laws_eqEdgeS.l0 k x x (i : Int)) (· = true) := by
  intro d
  induction d with
  | zero =>
    intro i hi
    refine Ep.up ?_
    simp only [laws_eqEdgeS.l0]
    exact Ep.neg (by omega) (Ep.now rfl)
  | succ d ih =>
    intro i hi
    refine Ep.up ?_
    simp only [laws_eqEdgeS.l0]
    refine Ep.pos (by omega) (Ep.pos (by omega) (Ep.pos (by omega) ?_))
    rw [wrap_succ (by omega)]
    exact Ep.bind0 (eqEdge_ok _ _) (Ep.pos rfl (ih (i + 1) (by omega)))
theorem eqGraph_ok (n : Int) (es : List E) (h : es.length ≤ 1048576) : Ep (fun k => laws_eqGraph.f k n es n es) (· = true) := by
  simp only [laws_eqGraph.f]
  refine Ep.pos trivial (Ep.bind (P := (· = true)) ?_ ?_)
  · simp only [laws_eqEdgeS.f]
    exact Ep.pos trivial (eqEdgeS_l0 es h es.length 0 (by omega))
  · rintro _ rfl
    exact Ep.pos rfl (Ep.now rfl)
theorem markEdgeS_l0 (n : Nat) (hn : n ≤ 1048576) {B : Int} (hB : B ≤ 1099511627776) : ∀ (d i : Nat) (x : List E) (a : Int), i + d = n → x.length = n → 0 ≤ a → a + 2 * d ≤ B → Ep (fun k => laws_markEdgeS.l0 k x a (i : Int)) (fun r => 0 ≤ r.1 ∧ r.1 ≤ B) := by
  intro d
  induction d with
  | zero =>
    intro i x a hi hx h0 ha
    refine Ep.up ?_
    simp only [laws_markEdgeS.l0]
    exact Ep.neg (by omega) (Ep.now ⟨h0, by omega⟩)
  | succ d ih =>
    intro i x a hi hx h0 ha
    refine Ep.up ?_
    simp only [laws_markEdgeS.l0]
    refine Ep.pos (by omega) (Ep.pos (by omega) (Ep.bind0 rfl ?_))
    rw [wrap_succ (by omega), wrap_id (x := a + 1) (by omega) (by omega), wrap_id (x := a + 1 + 1) (by omega) (by omega)]
    exact ih (i + 1) _ _ (by omega) (by simpa using hx) (by omega) (by omega)
theorem markGraph_ok (n : Int) (es : List E) (a : Int) (h : es.length ≤ 1048576) (ha : 0 ≤ a ∧ a ≤ 1000) : Ep (fun k => laws_markGraph.f k n es a) (fun r => 0 ≤ r.1 ∧ r.1 ≤ 3000000) := by
  have := markEdgeS_l0 es.length h (B := 3000000) (by omega) es.length 0 es a (by omega) rfl ha.1 (by omega)
  simp only [laws_markGraph.f, laws_markEdgeS.f]
  refine Ep.bind this ?_
  intro r hr
  exact Ep.now hr
end Go.Proofs.Ytjecgolakaiddaa.Cf
end

section
namespace Go.Proofs.Ytjecgolakaiddaa.Cf
set_option linter.unusedVariables false
set_option linter.unusedSimpArgs false
open Go.RowKit Go.Proofs.YtjecgolakaiddaaW.PrintWords Go.Proofs.Ytjecgolakaiddaa.P
theorem law_FnExactStateOfTree (n : Int) (es : List E) (l : List Int) (q : Int) (hn : Wf .i64 n) (hes : SL EWf es) (wl : SL (Wf .i64) l) (wq : Wf .i64 q) : Ep (fun k => laws_FnExactStateOfTree.f k n es l q) (· = true) := by
  have hr0 : ((stO n es l q).1).length ≤ 1048576 := by have := stO_len n es l q; omega
  simp only [laws_FnExactStateOfTree.f]
  refine Ep.ite (fun _ => Ep.now rfl) (fun hcl => ?_)
  have hl : l.length ≤ 1048576 := by omega
  obtain ⟨t, ht, _, h2⟩ := szGraph_ok n es 1048576 (by omega) hes.1
  refine Ep.bind0 ht (Ep.ite (fun _ => Ep.now rfl) (fun hc2 => ?_))
  have hel := h2 hc2
  repeat (first
    | exact Ep.now rfl
    | (refine Ep.bind (toGraph_ok _ _ hel) ?_; rintro _ rfl)
    | (refine Ep.bind (eqGraph_ok _ _ hel) ?_; rintro _ rfl)
    | (refine Ep.bind (toIntS_ok _ hl) ?_; rintro _ rfl)
    | (refine Ep.bind (eqIntS_ok _ hr0) ?_; rintro _ rfl)
    | (refine Ep.bind (eqIntS_ok _ hl) ?_; rintro _ rfl)
    | (refine Ep.bind (specStO _ _ _ _ hl) ?_; rintro _ rfl)
    | (refine Ep.bind (implStO _ _ _ _ hl) ?_; rintro _ rfl)
    | (refine Ep.bind (heldIntS_ok _ _ hr0 (by first | omega | (simp; omega))) ?_; rintro _ rfl)
    | (refine Ep.bind (markIntS_ok _ _ hr0 (by first | omega | (simp; omega))) ?_; rintro _ rfl)
    | (refine Ep.bind (markIntS_ok _ _ hl (by first | omega | (simp; omega))) ?_; rintro _ rfl)
    | (refine Ep.bind (markGraph_ok _ _ 1 hel (by omega)) ?_; intro r hr0_)
    | refine Ep.pos rfl ?_
    | refine Ep.pos trivial ?_
    | refine Ep.neg (by simp; omega) ?_
    | refine Ep.neg (by omega) ?_
    | refine Ep.neg (by simp) ?_
    | (refine Ep.up ?_; simp only [laws_FnExactStateOfTree.j0])
    | (refine Ep.up ?_; simp only [laws_FnExactStateOfTree.j1])
    | (refine Ep.up ?_; simp only [laws_FnExactStateOfTree.j2]))
end Go.Proofs.Ytjecgolakaiddaa.Cf
end

section
namespace Go.Proofs.Ytjecgolakaiddaa.Cf
set_option linter.unusedVariables false
set_option linter.unusedSimpArgs false
open Go.RowKit Go.ChangeShapes Go.WideShapes Go.Deep Go.Joins Go.Proofs.YtjecgolakaiddaaW.PrintWords
section
variable {H : Type} {enc : TypeId × Value → H} {P : Program} {w : World} {base : Nat} {spare : Nat → Bool} {held : Bool}
/-- A slice, whatever its elements are, if each of them can be told. -/
theorem trod_C {α : Type} {d : Kd α} {Q : α → Prop} (hd : Inhabited α) {t e : TypeId} {fuel : Nat} {cs : List Value} {x : DataW H × List MemPlace} (ht : P.underlying t = some (.slice e)) (hsz : P.cellsOf e = d.sz)
    (hel : ∀ (n : Nat) (cs : List Value) (y : DataW H × List MemPlace), DataW.trod enc P w base spare held n e cs = some y → ∃ a : α, d.K w a cs ∧ Q a)
    (h : DataW.trod enc P w base spare held fuel t cs = some x) : ∃ A len cap xs, cs = [.slice A len cap] ∧ xs.length = len ∧ len ≤ cap ∧ Kd.C d w A len xs ∧ SL Q xs := by
  rcases open_slice ht h with ⟨rfl, _⟩ | ⟨a, len, cap, m, n, D, Pl, rfl, _, hl, hm, hmm, _, hx⟩
  · exact ⟨none, 0, 0, [], rfl, rfl, Nat.le_refl _, ⟨rfl, by omega, fun hn => by omega⟩, by simp, fun x hx => by cases hx⟩
  · have hlm : len ≤ m := by rw [hmm]; split <;> omega
    obtain ⟨X, hX⟩ := choose_lt (α := α) (n := len) (p := fun i z => Q z ∧ ∃ c, c.length = d.sz ∧ d.K w z c ∧ ∀ j u, c[j]? = some u → w.cell? (a.add (i * d.sz + j)) = some u) (fun i hi => by
      obtain ⟨cs', h1, h2⟩ := hx i (by omega)
      obtain ⟨z, hz, hq⟩ := hel n cs' _ h2
      obtain ⟨_, hlen, hc⟩ := World.cells?_some h1
      refine ⟨z, hq, cs', by rw [hlen, hsz], hz, fun j u hj => ?_⟩
      have hjl : j < cs'.length := by
        apply Classical.byContradiction
        intro hc
        rw [List.getElem?_eq_none (by omega)] at hj
        cases hj
      have := hc j (by omega)
      rw [Deep.add_add, hsz] at this
      rw [this, hj])
    refine ⟨some a, len, cap, (List.range len).map X, rfl, by simp, hl, ⟨by simp, ?_, fun _ => ⟨a, rfl, fun j p hj => ?_⟩⟩, by simp; unfold maxLen at hm; omega, fun x hx => ?_⟩
    · unfold maxLen at hm
      omega
    · have hjl : j < len := by
        apply Classical.byContradiction
        intro hc
        rw [List.getElem?_eq_none (by simp; omega)] at hj
        cases hj
      have : p = X j := by
        rw [List.getElem?_eq_getElem (by simpa using hjl)] at hj
        simpa using hj.symm
      subst this
      exact (hX j hjl).2
    · obtain ⟨i, hi, rfl⟩ := List.mem_map.1 hx
      exact (hX i (List.mem_range.1 hi)).1
theorem el_int {k : IntKind} {e : TypeId} (he : P.underlying e = some (.int k)) : ∀ (n : Nat) (cs : List Value) (y : DataW H × List MemPlace), DataW.trod enc P w base spare held n e cs = some y → ∃ a : Int, (Kd.int k).K w a cs ∧ Wf k a := by
  intro n cs y h
  obtain ⟨a, rfl, _, hw⟩ := DataW.trod_int he h
  exact ⟨a, rfl, hw⟩
/-- A struct of two numbers. -/
theorem el_pair {k0 k1 : IntKind} {e : TypeId} {f0 f1 : Field} (he : P.underlying e = some (.struct #[f0, f1])) (ce : P.cellsOf e = 2) (o0 : f0.offset = 0) (o1 : f1.offset = 1) (c0 : P.cellsOf f0.type = 1) (c1 : P.cellsOf f1.type = 1)
    (u0 : P.underlying f0.type = some (.int k0)) (u1 : P.underlying f1.type = some (.int k1)) :
    ∀ (n : Nat) (cs : List Value) (y : DataW H × List MemPlace), DataW.trod enc P w base spare held n e cs = some y → ∃ a b : Int, cs = [.int k0 a, .int k1 b] ∧ Wf k0 a ∧ Wf k1 b := by
  intro n cs y h
  obtain ⟨y0, y1, m, _, hl, h0, h1⟩ := trod_struct2 he h
  rw [ce] at hl
  rw [o0, c0] at h0
  rw [o1, c1] at h1
  match cs, hl with
  | [a, b], _ =>
    obtain ⟨x, hx, _, wx⟩ := DataW.trod_int u0 h0
    obtain ⟨z, hz, _, wz⟩ := DataW.trod_int u1 h1
    simp at hx hz
    subst hx; subst hz
    exact ⟨x, z, rfl, wx, wz⟩
/-- A slice that comes in. -/
theorem arg_slice {α : Type} {d : Kd α} {Q : α → Prop} (hd : Inhabited α) {t e : TypeId} {a : Option Addr} {len cap : Nat} {x : DataW H} {ps : List MemPlace} (ht : P.underlying t = some (.slice e)) (hsz : P.cellsOf e = d.sz)
    (hel : ∀ (n : Nat) (cs : List Value) (y : DataW H × List MemPlace), DataW.trod enc P w base spare held n e cs = some y → ∃ a : α, d.K w a cs ∧ Q a)
    (h : DataW.Trod enc P w base spare held t (.slice a len cap) x ps) : ∃ xs : List α, xs.length = len ∧ len ≤ cap ∧ Kd.C d w a len xs ∧ SL Q xs := by
  obtain ⟨fuel, hf⟩ := h
  obtain ⟨A, l, c, xs, hcs, hl, hc, hC, hq⟩ := trod_C hd ht hsz hel hf
  simp [Value.cells] at hcs
  obtain ⟨rfl, rfl, rfl⟩ := hcs
  exact ⟨xs, hl, hc, hC, hq⟩
/-- A struct of a number and a slice that comes in. -/
theorem arg_graph {α : Type} {d : Kd α} {Q : α → Prop} (hd : Inhabited α) {r : Reach} {b0 : Nat} {t e : TypeId} {f0 f1 : Field} {v : Value} {x : DataW H} {p : List MemPlace} (hs : P.underlying t = some (.struct #[f0, f1])) (hone : oneCellFields P #[f0, f1] = true) (hC : P.cellsOf t = 2)
    (u0 : P.underlying f0.type = some (.int .i64)) (u1 : P.underlying f1.type = some (.slice e)) (hsz : P.cellsOf e = d.sz)
    (hel : ∀ (n : Nat) (cs : List Value) (y : DataW H × List MemPlace), DataW.trod enc P w base spare held n e cs = some y → ∃ a : α, d.K w a cs ∧ Q a)
    (hv : Value.okWide P w r b0 t v) (h : DataW.Trod enc P w base spare held t v x p) : ∃ n a len cap, ∃ xs : List α, v = .agg #[.int .i64 n, .slice a len cap] ∧ Wf .i64 n ∧ xs.length = len ∧ len ≤ cap ∧ Kd.C d w a len xs ∧ SL Q xs := by
  obtain ⟨v0, v1, y0, y1, m, rfl, _, _, h0, h1⟩ := open_agg2 hs hone hC hv h
  obtain ⟨n, hn, _, hw⟩ := DataW.trod_int u0 h0
  obtain ⟨A, len, cap, xs, hcs, hl, hc, hx, hq⟩ := trod_C hd u1 hsz hel h1
  simp at hn hcs
  subst hn; subst hcs
  exact ⟨n, A, len, cap, xs, rfl, hw, hl, hc, hx, hq⟩
end
end Go.Proofs.Ytjecgolakaiddaa.Cf
end

section
namespace Go.Proofs.Ytjecgolakaiddaa.Cf
theorem and2 {a b : Bool} (h : a = true) (k : b = true) : (a && b) = true := by rw [h, k]; rfl
theorem iniS : Try.prog.initOrder.toList = ['h', 'a', 'r', 'n', 'e', 's', 's', ' ', '0', '0', 'c', '4', 'f', '8', 'b', '5', '8', 'c', '3', 'd', '6', '2', '4', '4', '8', '9', '3', '8', '3', '5', 'b', '9', 'e', 'b', '3', '8', 'e', '6', '4', '2', '8', '4', '2', '8', '5', '7', 'b', '4', '9', 'c', 'c', '7', '0', '7', '7', 'e', '6', '8', '7', '0', '9', '9', '8', '2', 'd', '4', 'c', 'f', 'b', '1', 'b', '8', ' ', 'c', 'u', 't', ' ', 'a', 't', ' ', 'l', 'o', 'o', 'p', '.', 'e', 'x', 'a', 'm', 'p', 'l', 'e', '/', 'g', '0', '0', '8', '4', '1', '/', 'l', 'a', 'w', 's', '.', 'F', 'n', 'E', 'x', 'a', 'c', 't', 'R', 'o', 'w', 'O', 'f', 'O', 'n', 'e', ' ', 'l', 'o', 'o', 'p', '.', 'e', 'x', 'a', 'm', 'p', 'l', 'e', '/', 'g', '0', '0', '8', '4', '1', '/', 'l', 'a', 'w', 's', '.', 'F', 'n', 'E', 'x', 'a', 'c', 't', 'I', 's', 'T', 'r', 'e', 'e', 'S', 't', 'a', 't', 'e', ' ', 'l', 'o', 'o', 'p', '.', 'e', 'x', 'a', 'm', 'p', 'l', 'e', '/', 'g', '0', '0', '8', '4', '1', '/', 'l', 'a', 'w', 's', '.', 'F', 'n', 'E', 'x', 'a', 'c', 't', 'F', 'u', 'l', 'l', 'P', 'i', 'l', 'e', ' ', 'l', 'o', 'o', 'p', '.', 'e', 'x', 'a', 'm', 'p', 'l', 'e', '/', 'g', '0', '0', '8', '4', '1', '/', 'l', 'a', 'w', 's', '.', 'F', 'n', 'E', 'x', 'a', 'c', 't', 'I', 's', 'A', 'c', 'y', 'c', 'l', 'i', 'c', ' ', 'l', 'o', 'o', 'p', '.', 'e', 'x', 'a', 'm', 'p', 'l', 'e', '/', 'g', '0', '0', '8', '4', '1', '/', 'l', 'a', 'w', 's', '.', 'F', 'n', 'E', 'x', 'a', 'c', 't', 'D', 'i', 'v', 'i', 's', 'o', 'r', 'O', 'f', 'O', 'r', 'i', 'e', 'n', 't', ' ', 'l', 'o', 'o', 'p', '.', 'e', 'x', 'a', 'm', 'p', 'l', 'e', '/', 'g', '0', '0', '8', '4', '1', '/', 'l', 'a', 'w', 's', '.', 'F', 'n', 'E', 'x', 'a', 'c', 't', 'S', 't', 'e', 'p', 'W', 'a', 'l', 'k', 'e', 'r', ' ', 'l', 'o', 'o', 'p', '.', 'e', 'x', 'a', 'm', 'p', 'l', 'e', '/', 'g', '0', '0', '8', '4', '1', '/', 'l', 'a', 'w', 's', '.', 'F', 'n', 'E', 'x', 'a', 'c', 't', 'W', 'a', 'l', 'k', 'T', 'o', 'S', 'i', 'n', 'k', ' ', 'l', 'o', 'o', 'p', '.', 'e', 'x', 'a', 'm', 'p', 'l', 'e', '/', 'g', '0', '0', '8', '4', '1', '/', 'l', 'a', 'w', 's', '.', 'F', 'n', 'E', 'x', 'a', 'c', 't', 'S', 'o', 'u', 'r', 'c', 'e', 's', 'O', 'f', ' ', 'l', 'o', 'o', 'p', '.', 'e', 'x', 'a', 'm', 'p', 'l', 'e', '/', 'g', '0', '0', '8', '4', '1', '/', 'l', 'a', 'w', 's', '.', 'F', 'n', 'E', 'x', 'a', 'c', 't', 'S', 't', 'a', 't', 'e', 'O', 'f', 'T', 'r', 'e', 'e', ' ', 'l', 'o', 'o', 'p', '.', 'e', 'x', 'a', 'm', 'p', 'l', 'e', '/', 'g', '0', '0', '8', '4', '1', '/', 'l', 'a', 'w', 's', '.', 'F', 'n', 'E', 'x', 'a', 'c', 't', 'I', 's', 'P', 'a', 'r', 'k', 'i', 'n', 'g', ' ', 'l', 'o', 'o', 'p', '.', 'e', 'x', 'a', 'm', 'p', 'l', 'e', '/', 'g', '0', '0', '8', '4', '1', '/', 'l', 'a', 'w', 's', '.', 'F', 'n', 'E', 'x', 'a', 'c', 't', 'T', 'o', 'p', 'p', 'l', 'e', ' ', 'l', 'o', 'o', 'p', '.', 'e', 'x', 'a', 'm', 'p', 'l', 'e', '/', 'g', '0', '0', '8', '4', '1', '/', 'l', 'a', 'w', 's', '.', 'F', 'n', 'E', 'x', 'a', 'c', 't', 'F', 'l', 'i', 'p', 'S', 'o', 'u', 'r', 'c', 'e', ' ', 'l', 'o', 'o', 'p', '.', 'e', 'x', 'a', 'm', 'p', 'l', 'e', '/', 'g', '0', '0', '8', '4', '1', '/', 'l', 'a', 'w', 's', '.', 'F', 'n', 'E', 'x', 'a', 'c', 't', 'C', 'o', 'u', 'n', 't', 'A', 'c', 'y', 'c', 'l', 'i', 'c', ' ', 'l', 'o', 'o', 'p', '.', 'e', 'x', 'a', 'm', 'p', 'l', 'e', '/', 'g', '0', '0', '8', '4', '1', '/', 'l', 'a', 'w', 's', '.', 'F', 'n', 'E', 'x', 'a', 'c', 't', 'A', 'v', 'a', 'l', 'a', 'n', 'c', 'h', 'e', 'S', 'i', 'z', 'e', ' ', 'l', 'o', 'o', 'p', '.', 'e', 'x', 'a', 'm', 'p', 'l', 'e', '/', 'g', '0', '0', '8', '4', '1', '/', 'l', 'a', 'w', 's', '.', 'F', 'n', 'E', 'x', 'a', 'c', 't', 'S', 't', 'a', 'b', 'i', 'l', 'i', 'z', 'e', ' ', 'l', 'o', 'o', 'p', '.', 'e', 'x', 'a', 'm', 'p', 'l', 'e', '/', 'g', '0', '0', '8', '4', '1', '/', 'l', 'a', 'w', 's', '.', 'F', 'n', 'E', 'x', 'a', 'c', 't', 'O', 'r', 'i', 'e', 'n', 't', 'B', 'y', 'B', 'u', 'r', 'n', 'i', 'n', 'g', ' ', 'l', 'o', 'o', 'p', '.', 'e', 'x', 'a', 'm', 'p', 'l', 'e', '/', 'g', '0', '0', '8', '4', '1', '/', 'l', 'a', 'w', 's', '.', 'F', 'n', 'E', 'x', 'a', 'c', 't', 'S', 'u', 'm', 'O', 'f', 'P', 'i', 'l', 'e', 's', ' ', 'l', 'o', 'o', 'p', '.', 'e', 'x', 'a', 'm', 'p', 'l', 'e', '/', 'g', '0', '0', '8', '4', '1', '/', 'l', 'a', 'w', 's', '.', 'F', 'n', 'E', 'x', 'a', 'c', 't', 'I', 's', 'R', 'e', 'c', 'u', 'r', 'r', 'e', 'n', 't', ' ', 'l', 'o', 'o', 'p', '.', 'e', 'x', 'a', 'm', 'p', 'l', 'e', '/', 'g', '0', '0', '8', '4', '1', '/', 'l', 'a', 'w', 's', '.', 'F', 'n', 'E', 'x', 'a', 'c', 't', 'D', 'r', 'o', 'p', 'C', 'h', 'i', 'p', ' ', 'l', 'o', 'o', 'p', '.', 'e', 'x', 'a', 'm', 'p', 'l', 'e', '/', 'g', '0', '0', '8', '4', '1', '/', 'l', 'a', 'w', 's', '.', 'F', 'n', 'E', 'x', 'a', 'c', 't', 'L', 'e', 'v', 'e', 'l', 'O', 'f', ' ', 'l', 'o', 'o', 'p', '.', 'e', 'x', 'a', 'm', 'p', 'l', 'e', '/', 'g', '0', '0', '8', '4', '1', '/', 'l', 'a', 'w', 's', '.', 'F', 'n', 'E', 'x', 'a', 'c', 't', 'P', 'i', 'l', 'e', 'O', 'f', 'P', 'a', 'r', 'k', 'i', 'n', 'g', ' ', 'l', 'o', 'o', 'p', '.', 'e', 'x', 'a', 'm', 'p', 'l', 'e', '/', 'g', '0', '0', '8', '4', '1', '/', 'l', 'a', 'w', 's', '.', 'F', 'n', 'E', 'x', 'a', 'c', 't', 'O', 'r', 'd', 'e', 'r', 'O', 'f', ' ', 'l', 'o', 'o', 'p', '.', 'e', 'x', 'a', 'm', 'p', 'l', 'e', '/', 'g', '0', '0', '8', '4', '1', '/', 'l', 'a', 'w', 's', '.', 'F', 'n', 'E', 'x', 'a', 'c', 't', 'S', 'u', 'm', 'O', 'f', 'C', 'l', 'a', 's', 's', 'e', 's', ' ', 'l', 'o', 'o', 'p', '.', 'e', 'x', 'a', 'm', 'p', 'l', 'e', '/', 'g', '0', '0', '8', '4', '1', '/', 'l', 'a', 'w', 's', '.', 'F', 'n', 'E', 'x', 'a', 'c', 't', 'I', 'n', 'v', 'e', 'r', 's', 'e', 'C', 'l', 'a', 's', 's', ' ', 'l', 'o', 'o', 'p', '.', 'e', 'x', 'a', 'm', 'p', 'l', 'e', '/', 'g', '0', '0', '8', '4', '1', '/', 'l', 'a', 'w', 's', '.', 'F', 'n', 'E', 'x', 'a', 'c', 't', 'I', 'd', 'e', 'n', 't', 'i', 't', 'y', 'P', 'i', 'l', 'e', ' ', 'l', 'o', 'o', 'p', '.', 'e', 'x', 'a', 'm', 'p', 'l', 'e', '/', 'g', '0', '0', '8', '4', '1', '/', 'l', 'a', 'w', 's', '.', 'F', 'n', 'E', 'x', 'a', 'c', 't', 'P', 'a', 'r', 'k', 'i', 'n', 'g', 'O', 'f', 'P', 'i', 'l', 'e', ' ', 'l', 'o', 'o', 'p', '.', 'e', 'x', 'a', 'm', 'p', 'l', 'e', '/', 'g', '0', '0', '8', '4', '1', '/', 'l', 'a', 'w', 's', '.', 'F', 'n', 'E', 'x', 'a', 'c', 't', 'T', 'i', 'm', 'e', 's', 'C', 'l', 'a', 's', 's', ' ', 'l', 'o', 'o', 'p', '.', 'e', 'x', 'a', 'm', 'p', 'l', 'e', '/', 'g', '0', '0', '8', '4', '1', '/', 'l', 'a', 'w', 's', '.', 'F', 'n', 'E', 'x', 'a', 'c', 't', 'R', 'e', 'c', 'u', 'r', 'r', 'e', 'n', 't', 'O', 'f', ' ', 'l', 'o', 'o', 'p', '.', 'e', 'x', 'a', 'm', 'p', 'l', 'e', '/', 'g', '0', '0', '8', '4', '1', '/', 'l', 'a', 'w', 's', '.', 'F', 'n', 'E', 'x', 'a', 'c', 't', 'I', 'n', 'v', 'e', 'r', 's', 'e', 'P', 'i', 'l', 'e'] := by
  have h : Try.prog.initOrder = String.ofList ['h', 'a', 'r', 'n', 'e', 's', 's', ' ', '0', '0', 'c', '4', 'f', '8', 'b', '5', '8', 'c', '3', 'd', '6', '2', '4', '4', '8', '9', '3', '8', '3', '5', 'b', '9', 'e', 'b', '3', '8', 'e', '6', '4', '2', '8', '4', '2', '8', '5', '7', 'b', '4', '9', 'c', 'c', '7', '0', '7', '7', 'e', '6', '8', '7', '0', '9', '9', '8', '2', 'd', '4', 'c', 'f', 'b', '1', 'b', '8', ' ', 'c', 'u', 't', ' ', 'a', 't', ' ', 'l', 'o', 'o', 'p', '.', 'e', 'x', 'a', 'm', 'p', 'l', 'e', '/', 'g', '0', '0', '8', '4', '1', '/', 'l', 'a', 'w', 's', '.', 'F', 'n', 'E', 'x', 'a', 'c', 't', 'R', 'o', 'w', 'O', 'f', 'O', 'n', 'e', ' ', 'l', 'o', 'o', 'p', '.', 'e', 'x', 'a', 'm', 'p', 'l', 'e', '/', 'g', '0', '0', '8', '4', '1', '/', 'l', 'a', 'w', 's', '.', 'F', 'n', 'E', 'x', 'a', 'c', 't', 'I', 's', 'T', 'r', 'e', 'e', 'S', 't', 'a', 't', 'e', ' ', 'l', 'o', 'o', 'p', '.', 'e', 'x', 'a', 'm', 'p', 'l', 'e', '/', 'g', '0', '0', '8', '4', '1', '/', 'l', 'a', 'w', 's', '.', 'F', 'n', 'E', 'x', 'a', 'c', 't', 'F', 'u', 'l', 'l', 'P', 'i', 'l', 'e', ' ', 'l', 'o', 'o', 'p', '.', 'e', 'x', 'a', 'm', 'p', 'l', 'e', '/', 'g', '0', '0', '8', '4', '1', '/', 'l', 'a', 'w', 's', '.', 'F', 'n', 'E', 'x', 'a', 'c', 't', 'I', 's', 'A', 'c', 'y', 'c', 'l', 'i', 'c', ' ', 'l', 'o', 'o', 'p', '.', 'e', 'x', 'a', 'm', 'p', 'l', 'e', '/', 'g', '0', '0', '8', '4', '1', '/', 'l', 'a', 'w', 's', '.', 'F', 'n', 'E', 'x', 'a', 'c', 't', 'D', 'i', 'v', 'i', 's', 'o', 'r', 'O', 'f', 'O', 'r', 'i', 'e', 'n', 't', ' ', 'l', 'o', 'o', 'p', '.', 'e', 'x', 'a', 'm', 'p', 'l', 'e', '/', 'g', '0', '0', '8', '4', '1', '/', 'l', 'a', 'w', 's', '.', 'F', 'n', 'E', 'x', 'a', 'c', 't', 'S', 't', 'e', 'p', 'W', 'a', 'l', 'k', 'e', 'r', ' ', 'l', 'o', 'o', 'p', '.', 'e', 'x', 'a', 'm', 'p', 'l', 'e', '/', 'g', '0', '0', '8', '4', '1', '/', 'l', 'a', 'w', 's', '.', 'F', 'n', 'E', 'x', 'a', 'c', 't', 'W', 'a', 'l', 'k', 'T', 'o', 'S', 'i', 'n', 'k', ' ', 'l', 'o', 'o', 'p', '.', 'e', 'x', 'a', 'm', 'p', 'l', 'e', '/', 'g', '0', '0', '8', '4', '1', '/', 'l', 'a', 'w', 's', '.', 'F', 'n', 'E', 'x', 'a', 'c', 't', 'S', 'o', 'u', 'r', 'c', 'e', 's', 'O', 'f', ' ', 'l', 'o', 'o', 'p', '.', 'e', 'x', 'a', 'm', 'p', 'l', 'e', '/', 'g', '0', '0', '8', '4', '1', '/', 'l', 'a', 'w', 's', '.', 'F', 'n', 'E', 'x', 'a', 'c', 't', 'S', 't', 'a', 't', 'e', 'O', 'f', 'T', 'r', 'e', 'e', ' ', 'l', 'o', 'o', 'p', '.', 'e', 'x', 'a', 'm', 'p', 'l', 'e', '/', 'g', '0', '0', '8', '4', '1', '/', 'l', 'a', 'w', 's', '.', 'F', 'n', 'E', 'x', 'a', 'c', 't', 'I', 's', 'P', 'a', 'r', 'k', 'i', 'n', 'g', ' ', 'l', 'o', 'o', 'p', '.', 'e', 'x', 'a', 'm', 'p', 'l', 'e', '/', 'g', '0', '0', '8', '4', '1', '/', 'l', 'a', 'w', 's', '.', 'F', 'n', 'E', 'x', 'a', 'c', 't', 'T', 'o', 'p', 'p', 'l', 'e', ' ', 'l', 'o', 'o', 'p', '.', 'e', 'x', 'a', 'm', 'p', 'l', 'e', '/', 'g', '0', '0', '8', '4', '1', '/', 'l', 'a', 'w', 's', '.', 'F', 'n', 'E', 'x', 'a', 'c', 't', 'F', 'l', 'i', 'p', 'S', 'o', 'u', 'r', 'c', 'e', ' ', 'l', 'o', 'o', 'p', '.', 'e', 'x', 'a', 'm', 'p', 'l', 'e', '/', 'g', '0', '0', '8', '4', '1', '/', 'l', 'a', 'w', 's', '.', 'F', 'n', 'E', 'x', 'a', 'c', 't', 'C', 'o', 'u', 'n', 't', 'A', 'c', 'y', 'c', 'l', 'i', 'c', ' ', 'l', 'o', 'o', 'p', '.', 'e', 'x', 'a', 'm', 'p', 'l', 'e', '/', 'g', '0', '0', '8', '4', '1', '/', 'l', 'a', 'w', 's', '.', 'F', 'n', 'E', 'x', 'a', 'c', 't', 'A', 'v', 'a', 'l', 'a', 'n', 'c', 'h', 'e', 'S', 'i', 'z', 'e', ' ', 'l', 'o', 'o', 'p', '.', 'e', 'x', 'a', 'm', 'p', 'l', 'e', '/', 'g', '0', '0', '8', '4', '1', '/', 'l', 'a', 'w', 's', '.', 'F', 'n', 'E', 'x', 'a', 'c', 't', 'S', 't', 'a', 'b', 'i', 'l', 'i', 'z', 'e', ' ', 'l', 'o', 'o', 'p', '.', 'e', 'x', 'a', 'm', 'p', 'l', 'e', '/', 'g', '0', '0', '8', '4', '1', '/', 'l', 'a', 'w', 's', '.', 'F', 'n', 'E', 'x', 'a', 'c', 't', 'O', 'r', 'i', 'e', 'n', 't', 'B', 'y', 'B', 'u', 'r', 'n', 'i', 'n', 'g', ' ', 'l', 'o', 'o', 'p', '.', 'e', 'x', 'a', 'm', 'p', 'l', 'e', '/', 'g', '0', '0', '8', '4', '1', '/', 'l', 'a', 'w', 's', '.', 'F', 'n', 'E', 'x', 'a', 'c', 't', 'S', 'u', 'm', 'O', 'f', 'P', 'i', 'l', 'e', 's', ' ', 'l', 'o', 'o', 'p', '.', 'e', 'x', 'a', 'm', 'p', 'l', 'e', '/', 'g', '0', '0', '8', '4', '1', '/', 'l', 'a', 'w', 's', '.', 'F', 'n', 'E', 'x', 'a', 'c', 't', 'I', 's', 'R', 'e', 'c', 'u', 'r', 'r', 'e', 'n', 't', ' ', 'l', 'o', 'o', 'p', '.', 'e', 'x', 'a', 'm', 'p', 'l', 'e', '/', 'g', '0', '0', '8', '4', '1', '/', 'l', 'a', 'w', 's', '.', 'F', 'n', 'E', 'x', 'a', 'c', 't', 'D', 'r', 'o', 'p', 'C', 'h', 'i', 'p', ' ', 'l', 'o', 'o', 'p', '.', 'e', 'x', 'a', 'm', 'p', 'l', 'e', '/', 'g', '0', '0', '8', '4', '1', '/', 'l', 'a', 'w', 's', '.', 'F', 'n', 'E', 'x', 'a', 'c', 't', 'L', 'e', 'v', 'e', 'l', 'O', 'f', ' ', 'l', 'o', 'o', 'p', '.', 'e', 'x', 'a', 'm', 'p', 'l', 'e', '/', 'g', '0', '0', '8', '4', '1', '/', 'l', 'a', 'w', 's', '.', 'F', 'n', 'E', 'x', 'a', 'c', 't', 'P', 'i', 'l', 'e', 'O', 'f', 'P', 'a', 'r', 'k', 'i', 'n', 'g', ' ', 'l', 'o', 'o', 'p', '.', 'e', 'x', 'a', 'm', 'p', 'l', 'e', '/', 'g', '0', '0', '8', '4', '1', '/', 'l', 'a', 'w', 's', '.', 'F', 'n', 'E', 'x', 'a', 'c', 't', 'O', 'r', 'd', 'e', 'r', 'O', 'f', ' ', 'l', 'o', 'o', 'p', '.', 'e', 'x', 'a', 'm', 'p', 'l', 'e', '/', 'g', '0', '0', '8', '4', '1', '/', 'l', 'a', 'w', 's', '.', 'F', 'n', 'E', 'x', 'a', 'c', 't', 'S', 'u', 'm', 'O', 'f', 'C', 'l', 'a', 's', 's', 'e', 's', ' ', 'l', 'o', 'o', 'p', '.', 'e', 'x', 'a', 'm', 'p', 'l', 'e', '/', 'g', '0', '0', '8', '4', '1', '/', 'l', 'a', 'w', 's', '.', 'F', 'n', 'E', 'x', 'a', 'c', 't', 'I', 'n', 'v', 'e', 'r', 's', 'e', 'C', 'l', 'a', 's', 's', ' ', 'l', 'o', 'o', 'p', '.', 'e', 'x', 'a', 'm', 'p', 'l', 'e', '/', 'g', '0', '0', '8', '4', '1', '/', 'l', 'a', 'w', 's', '.', 'F', 'n', 'E', 'x', 'a', 'c', 't', 'I', 'd', 'e', 'n', 't', 'i', 't', 'y', 'P', 'i', 'l', 'e', ' ', 'l', 'o', 'o', 'p', '.', 'e', 'x', 'a', 'm', 'p', 'l', 'e', '/', 'g', '0', '0', '8', '4', '1', '/', 'l', 'a', 'w', 's', '.', 'F', 'n', 'E', 'x', 'a', 'c', 't', 'P', 'a', 'r', 'k', 'i', 'n', 'g', 'O', 'f', 'P', 'i', 'l', 'e', ' ', 'l', 'o', 'o', 'p', '.', 'e', 'x', 'a', 'm', 'p', 'l', 'e', '/', 'g', '0', '0', '8', '4', '1', '/', 'l', 'a', 'w', 's', '.', 'F', 'n', 'E', 'x', 'a', 'c', 't', 'T', 'i', 'm', 'e', 's', 'C', 'l', 'a', 's', 's', ' ', 'l', 'o', 'o', 'p', '.', 'e', 'x', 'a', 'm', 'p', 'l', 'e', '/', 'g', '0', '0', '8', '4', '1', '/', 'l', 'a', 'w', 's', '.', 'F', 'n', 'E', 'x', 'a', 'c', 't', 'R', 'e', 'c', 'u', 'r', 'r', 'e', 'n', 't', 'O', 'f', ' ', 'l', 'o', 'o', 'p', '.', 'e', 'x', 'a', 'm', 'p', 'l', 'e', '/', 'g', '0', '0', '8', '4', '1', '/', 'l', 'a', 'w', 's', '.', 'F', 'n', 'E', 'x', 'a', 'c', 't', 'I', 'n', 'v', 'e', 'r', 's', 'e', 'P', 'i', 'l', 'e'] := by kernel_rfl
  exact (congrArg String.toList h).trans String.toList_ofList
theorem iniW : behindMainWord (wordsSigns Try.prog.initOrder.toList) = [['c', 'u', 't'], ['a', 't'], ['l', 'o', 'o', 'p', '.', 'e', 'x', 'a', 'm', 'p', 'l', 'e', '/', 'g', '0', '0', '8', '4', '1', '/', 'l', 'a', 'w', 's', '.', 'F', 'n', 'E', 'x', 'a', 'c', 't', 'R', 'o', 'w', 'O', 'f', 'O', 'n', 'e'], ['l', 'o', 'o', 'p', '.', 'e', 'x', 'a', 'm', 'p', 'l', 'e', '/', 'g', '0', '0', '8', '4', '1', '/', 'l', 'a', 'w', 's', '.', 'F', 'n', 'E', 'x', 'a', 'c', 't', 'I', 's', 'T', 'r', 'e', 'e', 'S', 't', 'a', 't', 'e'], ['l', 'o', 'o', 'p', '.', 'e', 'x', 'a', 'm', 'p', 'l', 'e', '/', 'g', '0', '0', '8', '4', '1', '/', 'l', 'a', 'w', 's', '.', 'F', 'n', 'E', 'x', 'a', 'c', 't', 'F', 'u', 'l', 'l', 'P', 'i', 'l', 'e'], ['l', 'o', 'o', 'p', '.', 'e', 'x', 'a', 'm', 'p', 'l', 'e', '/', 'g', '0', '0', '8', '4', '1', '/', 'l', 'a', 'w', 's', '.', 'F', 'n', 'E', 'x', 'a', 'c', 't', 'I', 's', 'A', 'c', 'y', 'c', 'l', 'i', 'c'], ['l', 'o', 'o', 'p', '.', 'e', 'x', 'a', 'm', 'p', 'l', 'e', '/', 'g', '0', '0', '8', '4', '1', '/', 'l', 'a', 'w', 's', '.', 'F', 'n', 'E', 'x', 'a', 'c', 't', 'D', 'i', 'v', 'i', 's', 'o', 'r', 'O', 'f', 'O', 'r', 'i', 'e', 'n', 't'], ['l', 'o', 'o', 'p', '.', 'e', 'x', 'a', 'm', 'p', 'l', 'e', '/', 'g', '0', '0', '8', '4', '1', '/', 'l', 'a', 'w', 's', '.', 'F', 'n', 'E', 'x', 'a', 'c', 't', 'S', 't', 'e', 'p', 'W', 'a', 'l', 'k', 'e', 'r'], ['l', 'o', 'o', 'p', '.', 'e', 'x', 'a', 'm', 'p', 'l', 'e', '/', 'g', '0', '0', '8', '4', '1', '/', 'l', 'a', 'w', 's', '.', 'F', 'n', 'E', 'x', 'a', 'c', 't', 'W', 'a', 'l', 'k', 'T', 'o', 'S', 'i', 'n', 'k'], ['l', 'o', 'o', 'p', '.', 'e', 'x', 'a', 'm', 'p', 'l', 'e', '/', 'g', '0', '0', '8', '4', '1', '/', 'l', 'a', 'w', 's', '.', 'F', 'n', 'E', 'x', 'a', 'c', 't', 'S', 'o', 'u', 'r', 'c', 'e', 's', 'O', 'f'], ['l', 'o', 'o', 'p', '.', 'e', 'x', 'a', 'm', 'p', 'l', 'e', '/', 'g', '0', '0', '8', '4', '1', '/', 'l', 'a', 'w', 's', '.', 'F', 'n', 'E', 'x', 'a', 'c', 't', 'S', 't', 'a', 't', 'e', 'O', 'f', 'T', 'r', 'e', 'e'], ['l', 'o', 'o', 'p', '.', 'e', 'x', 'a', 'm', 'p', 'l', 'e', '/', 'g', '0', '0', '8', '4', '1', '/', 'l', 'a', 'w', 's', '.', 'F', 'n', 'E', 'x', 'a', 'c', 't', 'I', 's', 'P', 'a', 'r', 'k', 'i', 'n', 'g'], ['l', 'o', 'o', 'p', '.', 'e', 'x', 'a', 'm', 'p', 'l', 'e', '/', 'g', '0', '0', '8', '4', '1', '/', 'l', 'a', 'w', 's', '.', 'F', 'n', 'E', 'x', 'a', 'c', 't', 'T', 'o', 'p', 'p', 'l', 'e'], ['l', 'o', 'o', 'p', '.', 'e', 'x', 'a', 'm', 'p', 'l', 'e', '/', 'g', '0', '0', '8', '4', '1', '/', 'l', 'a', 'w', 's', '.', 'F', 'n', 'E', 'x', 'a', 'c', 't', 'F', 'l', 'i', 'p', 'S', 'o', 'u', 'r', 'c', 'e'], ['l', 'o', 'o', 'p', '.', 'e', 'x', 'a', 'm', 'p', 'l', 'e', '/', 'g', '0', '0', '8', '4', '1', '/', 'l', 'a', 'w', 's', '.', 'F', 'n', 'E', 'x', 'a', 'c', 't', 'C', 'o', 'u', 'n', 't', 'A', 'c', 'y', 'c', 'l', 'i', 'c'], ['l', 'o', 'o', 'p', '.', 'e', 'x', 'a', 'm', 'p', 'l', 'e', '/', 'g', '0', '0', '8', '4', '1', '/', 'l', 'a', 'w', 's', '.', 'F', 'n', 'E', 'x', 'a', 'c', 't', 'A', 'v', 'a', 'l', 'a', 'n', 'c', 'h', 'e', 'S', 'i', 'z', 'e'], ['l', 'o', 'o', 'p', '.', 'e', 'x', 'a', 'm', 'p', 'l', 'e', '/', 'g', '0', '0', '8', '4', '1', '/', 'l', 'a', 'w', 's', '.', 'F', 'n', 'E', 'x', 'a', 'c', 't', 'S', 't', 'a', 'b', 'i', 'l', 'i', 'z', 'e'], ['l', 'o', 'o', 'p', '.', 'e', 'x', 'a', 'm', 'p', 'l', 'e', '/', 'g', '0', '0', '8', '4', '1', '/', 'l', 'a', 'w', 's', '.', 'F', 'n', 'E', 'x', 'a', 'c', 't', 'O', 'r', 'i', 'e', 'n', 't', 'B', 'y', 'B', 'u', 'r', 'n', 'i', 'n', 'g'], ['l', 'o', 'o', 'p', '.', 'e', 'x', 'a', 'm', 'p', 'l', 'e', '/', 'g', '0', '0', '8', '4', '1', '/', 'l', 'a', 'w', 's', '.', 'F', 'n', 'E', 'x', 'a', 'c', 't', 'S', 'u', 'm', 'O', 'f', 'P', 'i', 'l', 'e', 's'], ['l', 'o', 'o', 'p', '.', 'e', 'x', 'a', 'm', 'p', 'l', 'e', '/', 'g', '0', '0', '8', '4', '1', '/', 'l', 'a', 'w', 's', '.', 'F', 'n', 'E', 'x', 'a', 'c', 't', 'I', 's', 'R', 'e', 'c', 'u', 'r', 'r', 'e', 'n', 't'], ['l', 'o', 'o', 'p', '.', 'e', 'x', 'a', 'm', 'p', 'l', 'e', '/', 'g', '0', '0', '8', '4', '1', '/', 'l', 'a', 'w', 's', '.', 'F', 'n', 'E', 'x', 'a', 'c', 't', 'D', 'r', 'o', 'p', 'C', 'h', 'i', 'p'], ['l', 'o', 'o', 'p', '.', 'e', 'x', 'a', 'm', 'p', 'l', 'e', '/', 'g', '0', '0', '8', '4', '1', '/', 'l', 'a', 'w', 's', '.', 'F', 'n', 'E', 'x', 'a', 'c', 't', 'L', 'e', 'v', 'e', 'l', 'O', 'f'], ['l', 'o', 'o', 'p', '.', 'e', 'x', 'a', 'm', 'p', 'l', 'e', '/', 'g', '0', '0', '8', '4', '1', '/', 'l', 'a', 'w', 's', '.', 'F', 'n', 'E', 'x', 'a', 'c', 't', 'P', 'i', 'l', 'e', 'O', 'f', 'P', 'a', 'r', 'k', 'i', 'n', 'g'], ['l', 'o', 'o', 'p', '.', 'e', 'x', 'a', 'm', 'p', 'l', 'e', '/', 'g', '0', '0', '8', '4', '1', '/', 'l', 'a', 'w', 's', '.', 'F', 'n', 'E', 'x', 'a', 'c', 't', 'O', 'r', 'd', 'e', 'r', 'O', 'f'], ['l', 'o', 'o', 'p', '.', 'e', 'x', 'a', 'm', 'p', 'l', 'e', '/', 'g', '0', '0', '8', '4', '1', '/', 'l', 'a', 'w', 's', '.', 'F', 'n', 'E', 'x', 'a', 'c', 't', 'S', 'u', 'm', 'O', 'f', 'C', 'l', 'a', 's', 's', 'e', 's'], ['l', 'o', 'o', 'p', '.', 'e', 'x', 'a', 'm', 'p', 'l', 'e', '/', 'g', '0', '0', '8', '4', '1', '/', 'l', 'a', 'w', 's', '.', 'F', 'n', 'E', 'x', 'a', 'c', 't', 'I', 'n', 'v', 'e', 'r', 's', 'e', 'C', 'l', 'a', 's', 's'], ['l', 'o', 'o', 'p', '.', 'e', 'x', 'a', 'm', 'p', 'l', 'e', '/', 'g', '0', '0', '8', '4', '1', '/', 'l', 'a', 'w', 's', '.', 'F', 'n', 'E', 'x', 'a', 'c', 't', 'I', 'd', 'e', 'n', 't', 'i', 't', 'y', 'P', 'i', 'l', 'e'], ['l', 'o', 'o', 'p', '.', 'e', 'x', 'a', 'm', 'p', 'l', 'e', '/', 'g', '0', '0', '8', '4', '1', '/', 'l', 'a', 'w', 's', '.', 'F', 'n', 'E', 'x', 'a', 'c', 't', 'P', 'a', 'r', 'k', 'i', 'n', 'g', 'O', 'f', 'P', 'i', 'l', 'e'], ['l', 'o', 'o', 'p', '.', 'e', 'x', 'a', 'm', 'p', 'l', 'e', '/', 'g', '0', '0', '8', '4', '1', '/', 'l', 'a', 'w', 's', '.', 'F', 'n', 'E', 'x', 'a', 'c', 't', 'T', 'i', 'm', 'e', 's', 'C', 'l', 'a', 's', 's'], ['l', 'o', 'o', 'p', '.', 'e', 'x', 'a', 'm', 'p', 'l', 'e', '/', 'g', '0', '0', '8', '4', '1', '/', 'l', 'a', 'w', 's', '.', 'F', 'n', 'E', 'x', 'a', 'c', 't', 'R', 'e', 'c', 'u', 'r', 'r', 'e', 'n', 't', 'O', 'f'], ['l', 'o', 'o', 'p', '.', 'e', 'x', 'a', 'm', 'p', 'l', 'e', '/', 'g', '0', '0', '8', '4', '1', '/', 'l', 'a', 'w', 's', '.', 'F', 'n', 'E', 'x', 'a', 'c', 't', 'I', 'n', 'v', 'e', 'r', 's', 'e', 'P', 'i', 'l', 'e']] := (congrArg (fun x => behindMainWord (wordsSigns x)) iniS).trans (by kernel_rfl)
theorem mk_cut {P : Program} {r : List (List Char)} (h : behindMainWord (wordsSigns P.initOrder.toList) = ['c', 'u', 't'] :: r) : P.make = some .cut := by
  unfold Program.make
  rw [h]
  rfl
theorem lf_cut {P : Program} {r : List (List Char)} (h : behindMainWord (wordsSigns P.initOrder.toList) = ['c', 'u', 't'] :: r) (k : (stripLifts liftWords (['c', 'u', 't'] :: r)).1 = []) : P.liftsFinal = false := by
  unfold Program.liftsFinal Program.headLifts
  rw [h]
  simp [k]
theorem en_cut {P : Program} {r : List (List Char)} (h : behindMainWord (wordsSigns P.initOrder.toList) = ['c', 'u', 't'] :: r) (k1 : (stripLifts liftWords (['c', 'u', 't'] :: r)).1 = []) (k2 : ((stripLifts liftWords (['c', 'u', 't'] :: r)).2.head? == some "cut".toList) = true) (h1 : P.laysLater = false) (h2 : P.bearsReflect = false) (h3 : P.doorFits [] = true) : P.mayEnter = true := by
  unfold Program.mayEnter
  rw [h]
  simp only [k1, k2, h1, h2, h3]
  simp
theorem make : Try.prog.make = some .cut := mk_cut iniW
theorem lifted : Try.prog.liftsFinal = false := lf_cut iniW (by kernel_rfl)
theorem enter : Try.prog.mayEnter = true := en_cut iniW (by kernel_rfl) (by kernel_rfl) (by kernel_rfl) (by kernel_rfl) (by kernel_rfl)
end Go.Proofs.Ytjecgolakaiddaa.Cf
end

