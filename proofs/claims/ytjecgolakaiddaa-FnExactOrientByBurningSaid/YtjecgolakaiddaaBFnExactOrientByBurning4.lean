/- A part of the proof of FnExactOrientByBurning. -/
import Derived.Test.YtjecgolakaiddaaBFnExactOrientByBurning3
import Derived.Test.YtjecgolakaiddaaBFnExactOrientByBurning0
import Derived.Test.YtjecgolakaiddaaBFnExactOrientByBurning1
import Derived.Test.YtjecgolakaiddaaBFnExactOrientByBurning2
import Derived.Deep.Slices
import Derived.Lib.SmallJoins
import Derived.ChangeSame
import Derived.Test.YtjecgolakaiddaaRows
import Derived.JoinedOf
import Derived.KernelRfl
section
namespace Go.Proofs.Ytjecgolakaiddaa.P
open Go.RowKit Go.Proofs.YtjecgolakaiddaaW.PrintWords Go.Proofs.YtjecgolakaiddaaW.PrintLast Go.Proofs.YtjecgolakaiddaaW.PrintMore
attribute [local go_sem] max2_int min2_int max_two min_two max_three min_three max_four min_four
set_option linter.unusedVariables false
set_option linter.unusedSimpArgs false
mutual
def spec_l05Reduce.l0 : Nat → List Int → Int → List Int → List Int → Int → List (S70) → Option (List Int × List Int)
  | 0, _, _, _, _, _, _ => none
  | k + 1, x1, x2, x8, x9, x102000, x102001 => (spec_l05Debt.f k x9 x2).bind fun t111 => (if t111 = true then (spec_l05Reduce.l1 k x1 x2 x8 x9 (x9.length : Int) 0 x102000 x102001) else (spec_l05Reduce.l2 k x1 x2 x8 x9 x102000 x102001))
def spec_l05Reduce.l1 : Nat → List Int → Int → List Int → List Int → Int → Int → Int → List (S70) → Option (List Int × List Int)
  | 0, _, _, _, _, _, _, _, _ => none
  | k + 1, x1, x2, x8, x9, x23, x24, x102000, x102001 => if x24 < x23 then (if x24 = x2 then (spec_l05Reduce.l1 k x1 x2 x8 x9 x23 (wrap64 (x24 + 1)) x102000 x102001) else (if 0 ≤ x24 then (if x24 < (x9.length : Int) then (if (rd x9 x24) < 0 then (if x24 < (x8.length : Int) then ((some (x8.set (x24 : Int).toNat (wrap64 ((rd x8 x24) - 1)) : List Int)).bind fun y114 => ((spec_l04Fire.f k x102000 x102001 x1 y114).bind fun t115 => (spec_l05Reduce.l1 k x1 x2 y114 t115 x23 (wrap64 (x24 + 1)) x102000 x102001))) else (none)) else (spec_l05Reduce.l1 k x1 x2 x8 x9 x23 (wrap64 (x24 + 1)) x102000 x102001)) else (none)) else (none))) else (spec_l05Reduce.l0 k x1 x2 x8 x9 x102000 x102001)
def spec_l05Reduce.l2 : Nat → List Int → Int → List Int → List Int → Int → List (S70) → Option (List Int × List Int)
  | 0, _, _, _, _, _, _ => none
  | k + 1, x1, x2, x8, x9, x102000, x102001 => (spec_l05Burn.f k x102000 x102001 x9 x2).bind fun t118 => (if (t118.length : Int) = x102000 then (some (x9, x8)) else (spec_l05Reduce.l3 k x1 x2 x8 t118 0 x102000 x102001))
def spec_l05Reduce.l3 : Nat → List Int → Int → List Int → List Int → Int → Int → List (S70) → Option (List Int × List Int)
  | 0, _, _, _, _, _, _, _ => none
  | k + 1, x1, x2, x8, x11, x12, x102000, x102001 => if x12 < x102000 then ((spec_l02Has.f k x11 x12).bind fun t121 => (if t121 = true then (spec_l05Reduce.l3 k x1 x2 x8 x11 (wrap64 (x12 + 1)) x102000 x102001) else (if 0 ≤ x12 then (if x12 < (x8.length : Int) then (spec_l05Reduce.l3 k x1 x2 (x8.set (x12 : Int).toNat (wrap64 ((rd x8 x12) + 1))) x11 (wrap64 (x12 + 1)) x102000 x102001) else (none)) else (none)))) else ((spec_l04Fire.f k x102000 x102001 x1 x8).bind fun t124 => (spec_l05Reduce.l2 k x1 x2 x8 t124 x102000 x102001))
end
def spec_l05Reduce.f (k : Nat) (a0_0 : Int) (l0_1 : List (S70)) (l1 : List Int) (a2 : Int) : Option (List Int × List Int) := if 0 ≤ a0_0 then (if (a0_0 : Int).toNat ≤ 35184372088832 then ((some (([] : List Int) : List Int)).bind fun y105 => (if y105.length + l1.length < 17592186044416 then (spec_l05Reduce.l0 k l1 a2 (List.replicate (a0_0 : Int).toNat 0) (y105 ++ l1) a0_0 l0_1) else (none))) else (none)) else (none)
theorem spec_l05Reduce.mono_l : ∀ k, (∀ y0 y1 y2 y3 y4 y5, LeO (spec_l05Reduce.l0 k y0 y1 y2 y3 y4 y5) (spec_l05Reduce.l0 (k + 1) y0 y1 y2 y3 y4 y5)) ∧ (∀ y0 y1 y2 y3 y4 y5 y6 y7, LeO (spec_l05Reduce.l1 k y0 y1 y2 y3 y4 y5 y6 y7) (spec_l05Reduce.l1 (k + 1) y0 y1 y2 y3 y4 y5 y6 y7)) ∧ (∀ y0 y1 y2 y3 y4 y5, LeO (spec_l05Reduce.l2 k y0 y1 y2 y3 y4 y5) (spec_l05Reduce.l2 (k + 1) y0 y1 y2 y3 y4 y5)) ∧ (∀ y0 y1 y2 y3 y4 y5 y6, LeO (spec_l05Reduce.l3 k y0 y1 y2 y3 y4 y5 y6) (spec_l05Reduce.l3 (k + 1) y0 y1 y2 y3 y4 y5 y6))
  | 0 => ⟨fun _ _ _ _ _ _ r h => by simp [spec_l05Reduce.l0] at h, fun _ _ _ _ _ _ _ _ r h => by simp [spec_l05Reduce.l1] at h, fun _ _ _ _ _ _ r h => by simp [spec_l05Reduce.l2] at h, fun _ _ _ _ _ _ _ r h => by simp [spec_l05Reduce.l3] at h⟩
  | k + 1 => by
    obtain ⟨ih0, ih1, ih2, ih3⟩ := spec_l05Reduce.mono_l k
    refine ⟨?_, ?_, ?_, ?_⟩
    · intro y0 y1 y2 y3 y4 y5
      unfold spec_l05Reduce.l0
      repeat' first
      | (with_reducible exact ih0 _ _ _ _ _ _)
      | (with_reducible exact ih1 _ _ _ _ _ _ _ _)
      | (with_reducible exact ih2 _ _ _ _ _ _)
      | (with_reducible exact ih3 _ _ _ _ _ _ _)
      | (with_reducible exact spec_l02Has.mono _ _ _)
      | (with_reducible exact spec_l04Fire.mono _ _ _ _ _)
      | (with_reducible exact spec_l05Burn.mono _ _ _ _ _)
      | (with_reducible exact spec_l05Debt.mono _ _ _)
      | (with_reducible exact LeO.refl _)
      | (with_reducible exact LeO.none _)
      | (with_reducible refine LeO.ite ?_ ?_)
      | (with_reducible refine LeO.bind ?_ (fun _ => ?_))
      | exact ih0 _ _ _ _ _ _
      | exact ih1 _ _ _ _ _ _ _ _
      | exact ih2 _ _ _ _ _ _
      | exact ih3 _ _ _ _ _ _ _
      | exact spec_l02Has.mono _ _ _
      | exact spec_l04Fire.mono _ _ _ _ _
      | exact spec_l05Burn.mono _ _ _ _ _
      | exact spec_l05Debt.mono _ _ _
      | exact LeO.none _
      | refine LeO.ite ?_ ?_
      | refine LeO.bind ?_ (fun _ => ?_)
    · intro y0 y1 y2 y3 y4 y5 y6 y7
      unfold spec_l05Reduce.l1
      repeat' first
      | (with_reducible exact ih0 _ _ _ _ _ _)
      | (with_reducible exact ih1 _ _ _ _ _ _ _ _)
      | (with_reducible exact ih2 _ _ _ _ _ _)
      | (with_reducible exact ih3 _ _ _ _ _ _ _)
      | (with_reducible exact spec_l02Has.mono _ _ _)
      | (with_reducible exact spec_l04Fire.mono _ _ _ _ _)
      | (with_reducible exact spec_l05Burn.mono _ _ _ _ _)
      | (with_reducible exact spec_l05Debt.mono _ _ _)
      | (with_reducible exact LeO.refl _)
      | (with_reducible exact LeO.none _)
      | (with_reducible refine LeO.ite ?_ ?_)
      | (with_reducible refine LeO.bind ?_ (fun _ => ?_))
      | exact ih0 _ _ _ _ _ _
      | exact ih1 _ _ _ _ _ _ _ _
      | exact ih2 _ _ _ _ _ _
      | exact ih3 _ _ _ _ _ _ _
      | exact spec_l02Has.mono _ _ _
      | exact spec_l04Fire.mono _ _ _ _ _
      | exact spec_l05Burn.mono _ _ _ _ _
      | exact spec_l05Debt.mono _ _ _
      | exact LeO.none _
      | refine LeO.ite ?_ ?_
      | refine LeO.bind ?_ (fun _ => ?_)
    · intro y0 y1 y2 y3 y4 y5
      unfold spec_l05Reduce.l2
      repeat' first
      | (with_reducible exact ih0 _ _ _ _ _ _)
      | (with_reducible exact ih1 _ _ _ _ _ _ _ _)
      | (with_reducible exact ih2 _ _ _ _ _ _)
      | (with_reducible exact ih3 _ _ _ _ _ _ _)
      | (with_reducible exact spec_l02Has.mono _ _ _)
      | (with_reducible exact spec_l04Fire.mono _ _ _ _ _)
      | (with_reducible exact spec_l05Burn.mono _ _ _ _ _)
      | (with_reducible exact spec_l05Debt.mono _ _ _)
      | (with_reducible exact LeO.refl _)
      | (with_reducible exact LeO.none _)
      | (with_reducible refine LeO.ite ?_ ?_)
      | (with_reducible refine LeO.bind ?_ (fun _ => ?_))
      | exact ih0 _ _ _ _ _ _
      | exact ih1 _ _ _ _ _ _ _ _
      | exact ih2 _ _ _ _ _ _
      | exact ih3 _ _ _ _ _ _ _
      | exact spec_l02Has.mono _ _ _
      | exact spec_l04Fire.mono _ _ _ _ _
      | exact spec_l05Burn.mono _ _ _ _ _
      | exact spec_l05Debt.mono _ _ _
      | exact LeO.none _
      | refine LeO.ite ?_ ?_
      | refine LeO.bind ?_ (fun _ => ?_)
    · intro y0 y1 y2 y3 y4 y5 y6
      unfold spec_l05Reduce.l3
      repeat' first
      | (with_reducible exact ih0 _ _ _ _ _ _)
      | (with_reducible exact ih1 _ _ _ _ _ _ _ _)
      | (with_reducible exact ih2 _ _ _ _ _ _)
      | (with_reducible exact ih3 _ _ _ _ _ _ _)
      | (with_reducible exact spec_l02Has.mono _ _ _)
      | (with_reducible exact spec_l04Fire.mono _ _ _ _ _)
      | (with_reducible exact spec_l05Burn.mono _ _ _ _ _)
      | (with_reducible exact spec_l05Debt.mono _ _ _)
      | (with_reducible exact LeO.refl _)
      | (with_reducible exact LeO.none _)
      | (with_reducible refine LeO.ite ?_ ?_)
      | (with_reducible refine LeO.bind ?_ (fun _ => ?_))
      | exact ih0 _ _ _ _ _ _
      | exact ih1 _ _ _ _ _ _ _ _
      | exact ih2 _ _ _ _ _ _
      | exact ih3 _ _ _ _ _ _ _
      | exact spec_l02Has.mono _ _ _
      | exact spec_l04Fire.mono _ _ _ _ _
      | exact spec_l05Burn.mono _ _ _ _ _
      | exact spec_l05Debt.mono _ _ _
      | exact LeO.none _
      | refine LeO.ite ?_ ?_
      | refine LeO.bind ?_ (fun _ => ?_)
theorem spec_l05Reduce.mono : ∀ a0 a1 a2 a3 k, LeO (spec_l05Reduce.f k a0 a1 a2 a3) (spec_l05Reduce.f (k + 1) a0 a1 a2 a3) := by
  intro a0 a1 a2 a3 k; obtain ⟨ih0, ih1, ih2, ih3⟩ := spec_l05Reduce.mono_l k; unfold spec_l05Reduce.f
  repeat' first
      | (with_reducible exact ih0 _ _ _ _ _ _)
      | (with_reducible exact ih1 _ _ _ _ _ _ _ _)
      | (with_reducible exact ih2 _ _ _ _ _ _)
      | (with_reducible exact ih3 _ _ _ _ _ _ _)
      | (with_reducible exact spec_l02Has.mono _ _ _)
      | (with_reducible exact spec_l04Fire.mono _ _ _ _ _)
      | (with_reducible exact spec_l05Burn.mono _ _ _ _ _)
      | (with_reducible exact spec_l05Debt.mono _ _ _)
      | (with_reducible exact LeO.refl _)
      | (with_reducible exact LeO.none _)
      | (with_reducible refine LeO.ite ?_ ?_)
      | (with_reducible refine LeO.bind ?_ (fun _ => ?_))
      | exact ih0 _ _ _ _ _ _
      | exact ih1 _ _ _ _ _ _ _ _
      | exact ih2 _ _ _ _ _ _
      | exact ih3 _ _ _ _ _ _ _
      | exact spec_l02Has.mono _ _ _
      | exact spec_l04Fire.mono _ _ _ _ _
      | exact spec_l05Burn.mono _ _ _ _ _
      | exact spec_l05Debt.mono _ _ _
      | exact LeO.none _
      | refine LeO.ite ?_ ?_
      | refine LeO.bind ?_ (fun _ => ?_)
end Go.Proofs.Ytjecgolakaiddaa.P
end

section
namespace Go.Proofs.Ytjecgolakaiddaa.P
open Go.RowKit Go.Proofs.YtjecgolakaiddaaW.PrintWords Go.Proofs.YtjecgolakaiddaaW.PrintLast Go.Proofs.YtjecgolakaiddaaW.PrintMore
attribute [local go_sem] max2_int min2_int max_two min_two max_three min_three max_four min_four
set_option linter.unusedVariables false
set_option linter.unusedSimpArgs false
mutual
def impl_reduce.l0 : Nat → Int → List Int → List Int → Int → Int → List (S70) → Option (List Int × List Int)
  | 0, _, _, _, _, _, _ => none
  | k + 1, x2, x8, x9, x10, x102000, x102001 => if x10 ≥ 0 then ((impl_Valence.f k x102000 x102001 x10).bind fun t109 => (if 0 ≤ x10 then (if x10 < (x8.length : Int) then (if t109 = 0 then (none) else ((impl_fire.f k x102000 x102001 x8 x10 (wrap64 (-(wrap64 (Int.tdiv (wrap64 ((wrap64 (t109 - 1)) - (rd x8 x10))) t109))))).bind fun t111 => (if x10 < (x9.length : Int) then ((impl_inDebt.f k t111 x2).bind fun t114 => (impl_reduce.l0 k x2 t111 (x9.set (x10 : Int).toNat (wrap64 ((rd x9 x10) - (wrap64 (Int.tdiv (wrap64 ((wrap64 (t109 - 1)) - (rd x8 x10))) t109))))) t114 x102000 x102001)) else (none)))) else (none)) else (none))) else (impl_reduce.l1 k x2 x8 x9 x102000 x102001)
def impl_reduce.l1 : Nat → Int → List Int → List Int → Int → List (S70) → Option (List Int × List Int)
  | 0, _, _, _, _, _ => none
  | k + 1, x2, x8, x9, x102000, x102001 => (impl_burn.f k x102000 x102001 x8 x2).bind fun t115 => (if (t115.length : Int) = x102000 then (some (x8, x9)) else (impl_reduce.l2 k x2 x8 x9 t115 (x9.length : Int) 0 x102000 x102001))
def impl_reduce.l2 : Nat → Int → List Int → List Int → List Int → Int → Int → Int → List (S70) → Option (List Int × List Int)
  | 0, _, _, _, _, _, _, _, _ => none
  | k + 1, x2, x8, x9, x13, x65, x66, x102000, x102001 => if x66 < x65 then ((slices_Contains_int_int.f k x13 x66).bind fun t118 => (if t118 = true then (impl_reduce.l2 k x2 x8 x9 x13 x65 (wrap64 (x66 + 1)) x102000 x102001) else ((impl_fire.f k x102000 x102001 x8 x66 1).bind fun t119 => (if 0 ≤ x66 then (if x66 < (x9.length : Int) then (impl_reduce.l2 k x2 t119 (x9.set (x66 : Int).toNat (wrap64 ((rd x9 x66) + 1))) x13 x65 (wrap64 (x66 + 1)) x102000 x102001) else (none)) else (none))))) else (impl_reduce.l1 k x2 x8 x9 x102000 x102001)
end
def impl_reduce.f (k : Nat) (a0_0 : Int) (l0_1 : List (S70)) (l1 : List Int) (a2 : Int) : Option (List Int × List Int) := (impl_copyInts.f l1).bind fun t102 => (if 0 ≤ a0_0 then (if (a0_0 : Int).toNat ≤ 35184372088832 then ((impl_inDebt.f k t102 a2).bind fun t108 => (impl_reduce.l0 k a2 t102 (List.replicate (a0_0 : Int).toNat 0) t108 a0_0 l0_1)) else (none)) else (none))
theorem impl_reduce.mono_l : ∀ k, (∀ y0 y1 y2 y3 y4 y5, LeO (impl_reduce.l0 k y0 y1 y2 y3 y4 y5) (impl_reduce.l0 (k + 1) y0 y1 y2 y3 y4 y5)) ∧ (∀ y0 y1 y2 y3 y4, LeO (impl_reduce.l1 k y0 y1 y2 y3 y4) (impl_reduce.l1 (k + 1) y0 y1 y2 y3 y4)) ∧ (∀ y0 y1 y2 y3 y4 y5 y6 y7, LeO (impl_reduce.l2 k y0 y1 y2 y3 y4 y5 y6 y7) (impl_reduce.l2 (k + 1) y0 y1 y2 y3 y4 y5 y6 y7))
  | 0 => ⟨fun _ _ _ _ _ _ r h => by simp [impl_reduce.l0] at h, fun _ _ _ _ _ r h => by simp [impl_reduce.l1] at h, fun _ _ _ _ _ _ _ _ r h => by simp [impl_reduce.l2] at h⟩
  | k + 1 => by
    obtain ⟨ih0, ih1, ih2⟩ := impl_reduce.mono_l k
    refine ⟨?_, ?_, ?_⟩
    · intro y0 y1 y2 y3 y4 y5
      unfold impl_reduce.l0
      repeat' first
      | (with_reducible exact ih0 _ _ _ _ _ _)
      | (with_reducible exact ih1 _ _ _ _ _)
      | (with_reducible exact ih2 _ _ _ _ _ _ _ _)
      | (with_reducible exact impl_Valence.mono _ _ _ _)
      | (with_reducible exact impl_burn.mono _ _ _ _ _)
      | (with_reducible exact impl_fire.mono _ _ _ _ _ _)
      | (with_reducible exact impl_inDebt.mono _ _ _)
      | (with_reducible exact slices_Contains_int_int.mono _ _ _)
      | (with_reducible exact LeO.refl _)
      | (with_reducible exact LeO.none _)
      | (with_reducible refine LeO.ite ?_ ?_)
      | (with_reducible refine LeO.bind ?_ (fun _ => ?_))
      | exact ih0 _ _ _ _ _ _
      | exact ih1 _ _ _ _ _
      | exact ih2 _ _ _ _ _ _ _ _
      | exact impl_Valence.mono _ _ _ _
      | exact impl_burn.mono _ _ _ _ _
      | exact impl_fire.mono _ _ _ _ _ _
      | exact impl_inDebt.mono _ _ _
      | exact slices_Contains_int_int.mono _ _ _
      | exact LeO.none _
      | refine LeO.ite ?_ ?_
      | refine LeO.bind ?_ (fun _ => ?_)
    · intro y0 y1 y2 y3 y4
      unfold impl_reduce.l1
      repeat' first
      | (with_reducible exact ih0 _ _ _ _ _ _)
      | (with_reducible exact ih1 _ _ _ _ _)
      | (with_reducible exact ih2 _ _ _ _ _ _ _ _)
      | (with_reducible exact impl_Valence.mono _ _ _ _)
      | (with_reducible exact impl_burn.mono _ _ _ _ _)
      | (with_reducible exact impl_fire.mono _ _ _ _ _ _)
      | (with_reducible exact impl_inDebt.mono _ _ _)
      | (with_reducible exact slices_Contains_int_int.mono _ _ _)
      | (with_reducible exact LeO.refl _)
      | (with_reducible exact LeO.none _)
      | (with_reducible refine LeO.ite ?_ ?_)
      | (with_reducible refine LeO.bind ?_ (fun _ => ?_))
      | exact ih0 _ _ _ _ _ _
      | exact ih1 _ _ _ _ _
      | exact ih2 _ _ _ _ _ _ _ _
      | exact impl_Valence.mono _ _ _ _
      | exact impl_burn.mono _ _ _ _ _
      | exact impl_fire.mono _ _ _ _ _ _
      | exact impl_inDebt.mono _ _ _
      | exact slices_Contains_int_int.mono _ _ _
      | exact LeO.none _
      | refine LeO.ite ?_ ?_
      | refine LeO.bind ?_ (fun _ => ?_)
    · intro y0 y1 y2 y3 y4 y5 y6 y7
      unfold impl_reduce.l2
      repeat' first
      | (with_reducible exact ih0 _ _ _ _ _ _)
      | (with_reducible exact ih1 _ _ _ _ _)
      | (with_reducible exact ih2 _ _ _ _ _ _ _ _)
      | (with_reducible exact impl_Valence.mono _ _ _ _)
      | (with_reducible exact impl_burn.mono _ _ _ _ _)
      | (with_reducible exact impl_fire.mono _ _ _ _ _ _)
      | (with_reducible exact impl_inDebt.mono _ _ _)
      | (with_reducible exact slices_Contains_int_int.mono _ _ _)
      | (with_reducible exact LeO.refl _)
      | (with_reducible exact LeO.none _)
      | (with_reducible refine LeO.ite ?_ ?_)
      | (with_reducible refine LeO.bind ?_ (fun _ => ?_))
      | exact ih0 _ _ _ _ _ _
      | exact ih1 _ _ _ _ _
      | exact ih2 _ _ _ _ _ _ _ _
      | exact impl_Valence.mono _ _ _ _
      | exact impl_burn.mono _ _ _ _ _
      | exact impl_fire.mono _ _ _ _ _ _
      | exact impl_inDebt.mono _ _ _
      | exact slices_Contains_int_int.mono _ _ _
      | exact LeO.none _
      | refine LeO.ite ?_ ?_
      | refine LeO.bind ?_ (fun _ => ?_)
theorem impl_reduce.mono : ∀ a0 a1 a2 a3 k, LeO (impl_reduce.f k a0 a1 a2 a3) (impl_reduce.f (k + 1) a0 a1 a2 a3) := by
  intro a0 a1 a2 a3 k; obtain ⟨ih0, ih1, ih2⟩ := impl_reduce.mono_l k; unfold impl_reduce.f
  repeat' first
      | (with_reducible exact ih0 _ _ _ _ _ _)
      | (with_reducible exact ih1 _ _ _ _ _)
      | (with_reducible exact ih2 _ _ _ _ _ _ _ _)
      | (with_reducible exact impl_Valence.mono _ _ _ _)
      | (with_reducible exact impl_burn.mono _ _ _ _ _)
      | (with_reducible exact impl_fire.mono _ _ _ _ _ _)
      | (with_reducible exact impl_inDebt.mono _ _ _)
      | (with_reducible exact slices_Contains_int_int.mono _ _ _)
      | (with_reducible exact LeO.refl _)
      | (with_reducible exact LeO.none _)
      | (with_reducible refine LeO.ite ?_ ?_)
      | (with_reducible refine LeO.bind ?_ (fun _ => ?_))
      | exact ih0 _ _ _ _ _ _
      | exact ih1 _ _ _ _ _
      | exact ih2 _ _ _ _ _ _ _ _
      | exact impl_Valence.mono _ _ _ _
      | exact impl_burn.mono _ _ _ _ _
      | exact impl_fire.mono _ _ _ _ _ _
      | exact impl_inDebt.mono _ _ _
      | exact slices_Contains_int_int.mono _ _ _
      | exact LeO.none _
      | refine LeO.ite ?_ ?_
      | refine LeO.bind ?_ (fun _ => ?_)
end Go.Proofs.Ytjecgolakaiddaa.P
end

section
namespace Go.Proofs.Ytjecgolakaiddaa.Cf
set_option linter.unusedVariables false
set_option linter.unusedSimpArgs false
open Go.RowKit Go.Proofs.YtjecgolakaiddaaW.PrintWords Go.Proofs.Ytjecgolakaiddaa.P
/-- t has been borrowed. -/
def Owed (n : Nat) (es : List E) (q : Int) (d : List Int) (t : Int → Int) : Prop := Legal n es q (dual es (rd d)) t
theorem Owed.zero {n : Nat} {es : List E} {q : Int} {d : List Int} : Owed n es q d (fun _ => 0) := Legal.zero
structure Sec (n : Nat) (es : List E) (q : Int) (d : List Int) (t u : Int → Int) : Prop where
  ow : Owed n es q d t
  sets : Sets n es q (fun v => rd d v + lap es t v) u
theorem Sec.done {n : Nat} {es : List E} {q : Int} (g : Gr n es q) {d : List Int} {t u : Int → Int} (h : Sec n es q d t u) {s x : List Int} (hs : Rep n s (fun w => u w - t w)) (hx : Rep n x (fun w => rd d w + lap es t w - lap es u w)) {b : List Int} (hbu : Burn n es (rd x) q b) (hl : b.length = n) : Reduced n es q d (x, s) := by
  refine ⟨hx.1, hs.1, hbu.red g.hes g.hq hl (fun v v0 v1 v2 => ?_), ?_, fun v v0 v1 => ?_⟩
  · rw [hx.2 v v0 v1]
    exact h.sets.keeps v v0 v1 v2
  · have e : rd s q = u q - t q := hs.2 q g.hq.1 g.hq.2
    show rd s q = 0
    rw [e, h.sets.at_q, h.ow.nonneg.2]
    rfl
  · have e : rd x v = rd d v + lap es t v - lap es u v := hx.2 v v0 v1
    show rd x v = rd d v - lap es (rd s) v
    rw [e, lap_congr g.hes (t := fun w => u w - t w) hs.2, lap_sub]
    omega
end Go.Proofs.Ytjecgolakaiddaa.Cf
end

section
namespace Go.Proofs.Ytjecgolakaiddaa.P
open Go.RowKit Go.Proofs.YtjecgolakaiddaaW.PrintWords Go.Proofs.YtjecgolakaiddaaW.PrintLast Go.Proofs.YtjecgolakaiddaaW.PrintMore
attribute [local go_sem] max2_int min2_int max_two min_two max_three min_three max_four min_four
set_option linter.unusedVariables false
set_option linter.unusedSimpArgs false
def impl_sumOf.l0 : Nat → Int → List Int → Int → Int → Option (Int)
  | 0, _, _, _, _ => none
  | k + 1, x3, x6, x7, x8 => if x8 < x7 then (if 0 ≤ x8 then (if x8 < (x6.length : Int) then (impl_sumOf.l0 k (wrap64 (x3 + (rd x6 x8))) x6 x7 (wrap64 (x8 + 1))) else (none)) else (none)) else (some x3)
def impl_sumOf.f (k : Nat) (l0 : List Int) : Option (Int) := impl_sumOf.l0 k 0 l0 (l0.length : Int) 0
theorem impl_sumOf.mono_l : ∀ k, (∀ y0 y1 y2 y3, LeO (impl_sumOf.l0 k y0 y1 y2 y3) (impl_sumOf.l0 (k + 1) y0 y1 y2 y3))
  | 0 => fun _ _ _ _ r h => by simp [impl_sumOf.l0] at h
  | k + 1 => by
    have ih0 := impl_sumOf.mono_l k
    · intro y0 y1 y2 y3
      unfold impl_sumOf.l0
      repeat' first
      | (with_reducible exact ih0 _ _ _ _)
      | (with_reducible exact LeO.refl _)
      | (with_reducible exact LeO.none _)
      | (with_reducible refine LeO.ite ?_ ?_)
      | (with_reducible refine LeO.bind ?_ (fun _ => ?_))
      | exact ih0 _ _ _ _
      | exact LeO.none _
      | refine LeO.ite ?_ ?_
      | refine LeO.bind ?_ (fun _ => ?_)
theorem impl_sumOf.mono : ∀ a0 k, LeO (impl_sumOf.f k a0) (impl_sumOf.f (k + 1) a0) := by
  intro a0 k; have ih0 := impl_sumOf.mono_l k; unfold impl_sumOf.f
  repeat' first
      | (with_reducible exact ih0 _ _ _ _)
      | (with_reducible exact LeO.refl _)
      | (with_reducible exact LeO.none _)
      | (with_reducible refine LeO.ite ?_ ?_)
      | (with_reducible refine LeO.bind ?_ (fun _ => ?_))
      | exact ih0 _ _ _ _
      | exact LeO.none _
      | refine LeO.ite ?_ ?_
      | refine LeO.bind ?_ (fun _ => ?_)
end Go.Proofs.Ytjecgolakaiddaa.P
end

section
namespace Go.Proofs.Ytjecgolakaiddaa.P
open Go.RowKit Go.Proofs.YtjecgolakaiddaaW.PrintWords Go.Proofs.YtjecgolakaiddaaW.PrintLast Go.Proofs.YtjecgolakaiddaaW.PrintMore
attribute [local go_sem] max2_int min2_int max_two min_two max_three min_three max_four min_four
set_option linter.unusedVariables false
set_option linter.unusedSimpArgs false
def spec_DegreeOf.l0 : Nat → Int → List Int → Int → Int → Option (Int)
  | 0, _, _, _, _ => none
  | k + 1, x3, x6, x7, x8 => if x8 < x7 then (if 0 ≤ x8 then (if x8 < (x6.length : Int) then (spec_DegreeOf.l0 k (wrap64 (x3 + (rd x6 x8))) x6 x7 (wrap64 (x8 + 1))) else (none)) else (none)) else (some x3)
def spec_DegreeOf.f (k : Nat) (l0 : List Int) : Option (Int) := spec_DegreeOf.l0 k 0 l0 (l0.length : Int) 0
theorem spec_DegreeOf.mono_l : ∀ k, (∀ y0 y1 y2 y3, LeO (spec_DegreeOf.l0 k y0 y1 y2 y3) (spec_DegreeOf.l0 (k + 1) y0 y1 y2 y3))
  | 0 => fun _ _ _ _ r h => by simp [spec_DegreeOf.l0] at h
  | k + 1 => by
    have ih0 := spec_DegreeOf.mono_l k
    · intro y0 y1 y2 y3
      unfold spec_DegreeOf.l0
      repeat' first
      | (with_reducible exact ih0 _ _ _ _)
      | (with_reducible exact LeO.refl _)
      | (with_reducible exact LeO.none _)
      | (with_reducible refine LeO.ite ?_ ?_)
      | (with_reducible refine LeO.bind ?_ (fun _ => ?_))
      | exact ih0 _ _ _ _
      | exact LeO.none _
      | refine LeO.ite ?_ ?_
      | refine LeO.bind ?_ (fun _ => ?_)
theorem spec_DegreeOf.mono : ∀ a0 k, LeO (spec_DegreeOf.f k a0) (spec_DegreeOf.f (k + 1) a0) := by
  intro a0 k; have ih0 := spec_DegreeOf.mono_l k; unfold spec_DegreeOf.f
  repeat' first
      | (with_reducible exact ih0 _ _ _ _)
      | (with_reducible exact LeO.refl _)
      | (with_reducible exact LeO.none _)
      | (with_reducible refine LeO.ite ?_ ?_)
      | (with_reducible refine LeO.bind ?_ (fun _ => ?_))
      | exact ih0 _ _ _ _
      | exact LeO.none _
      | refine LeO.ite ?_ ?_
      | refine LeO.bind ?_ (fun _ => ?_)
end Go.Proofs.Ytjecgolakaiddaa.P
end

section
namespace Go.Proofs.Ytjecgolakaiddaa.Cf
set_option linter.unusedVariables false
set_option linter.unusedSimpArgs false
open Go.RowKit Go.Proofs.YtjecgolakaiddaaW.PrintWords Go.Proofs.Ytjecgolakaiddaa.P
/-- The numbers are no greater than a thousand million. -/
def Mod (l : List Int) : Prop := ∀ x ∈ l, -1000000000 ≤ x ∧ x ≤ 1000000000
end Go.Proofs.Ytjecgolakaiddaa.Cf
end

section
namespace Go.Proofs.Ytjecgolakaiddaa.P
open Go.RowKit Go.Proofs.YtjecgolakaiddaaW.PrintWords Go.Proofs.YtjecgolakaiddaaW.PrintLast Go.Proofs.YtjecgolakaiddaaW.PrintMore
attribute [local go_sem] max2_int min2_int max_two min_two max_three min_three max_four min_four
set_option linter.unusedVariables false
set_option linter.unusedSimpArgs false
def spec_Stabilize.f (k : Nat) (a0_0 : Int) (l0_1 : List (S70)) (l1 : List Int) (a2 : Int) : Option (List Int × List Int × Bool) := (spec_PileOk.f k a0_0 l0_1 l1 a2).bind fun t102 => (if t102 = true then ((spec_l10Settle.f k a0_0 l0_1 l1 a2).bind fun bt103 => (some (bt103.1, bt103.2, true))) else (some (([] : List Int), ([] : List Int), false)))
theorem spec_Stabilize.mono : ∀ a0 a1 a2 a3 k, LeO (spec_Stabilize.f k a0 a1 a2 a3) (spec_Stabilize.f (k + 1) a0 a1 a2 a3) := by
  intro a0 a1 a2 a3 k; unfold spec_Stabilize.f
  repeat' first
      | (with_reducible exact spec_PileOk.mono _ _ _ _ _)
      | (with_reducible exact spec_l10Settle.mono _ _ _ _ _)
      | (with_reducible exact LeO.refl _)
      | (with_reducible exact LeO.none _)
      | (with_reducible refine LeO.ite ?_ ?_)
      | (with_reducible refine LeO.bind ?_ (fun _ => ?_))
      | exact spec_PileOk.mono _ _ _ _ _
      | exact spec_l10Settle.mono _ _ _ _ _
      | exact LeO.none _
      | refine LeO.ite ?_ ?_
      | refine LeO.bind ?_ (fun _ => ?_)
end Go.Proofs.Ytjecgolakaiddaa.P
end

section
namespace Go.Proofs.Ytjecgolakaiddaa.P
open Go.RowKit Go.Proofs.YtjecgolakaiddaaW.PrintWords Go.Proofs.YtjecgolakaiddaaW.PrintLast Go.Proofs.YtjecgolakaiddaaW.PrintMore
attribute [local go_sem] max2_int min2_int max_two min_two max_three min_three max_four min_four
set_option linter.unusedVariables false
set_option linter.unusedSimpArgs false
def impl_Stabilize.f (k : Nat) (a0_0 : Int) (l0_1 : List (S70)) (l1 : List Int) (a2 : Int) : Option (List Int × List Int × Bool) := (impl_PileOk.f k a0_0 l0_1 l1 a2).bind fun t102 => (if t102 = true then ((impl_stabilize.f k a0_0 l0_1 l1 a2).bind fun bt103 => (some (bt103.1, bt103.2, true))) else (some (([] : List Int), ([] : List Int), false)))
theorem impl_Stabilize.mono : ∀ a0 a1 a2 a3 k, LeO (impl_Stabilize.f k a0 a1 a2 a3) (impl_Stabilize.f (k + 1) a0 a1 a2 a3) := by
  intro a0 a1 a2 a3 k; unfold impl_Stabilize.f
  repeat' first
      | (with_reducible exact impl_PileOk.mono _ _ _ _ _)
      | (with_reducible exact impl_stabilize.mono _ _ _ _ _)
      | (with_reducible exact LeO.refl _)
      | (with_reducible exact LeO.none _)
      | (with_reducible refine LeO.ite ?_ ?_)
      | (with_reducible refine LeO.bind ?_ (fun _ => ?_))
      | exact impl_PileOk.mono _ _ _ _ _
      | exact impl_stabilize.mono _ _ _ _ _
      | exact LeO.none _
      | refine LeO.ite ?_ ?_
      | refine LeO.bind ?_ (fun _ => ?_)
end Go.Proofs.Ytjecgolakaiddaa.P
end

section
namespace Go.Proofs.Ytjecgolakaiddaa.P
open Go.RowKit Go.Proofs.YtjecgolakaiddaaW.PrintWords Go.Proofs.YtjecgolakaiddaaW.PrintLast Go.Proofs.YtjecgolakaiddaaW.PrintMore
attribute [local go_sem] max2_int min2_int max_two min_two max_three min_three max_four min_four
set_option linter.unusedVariables false
set_option linter.unusedSimpArgs false
def spec_AvalancheSize.f (k : Nat) (a0_0 : Int) (l0_1 : List (S70)) (l1 : List Int) (a2 : Int) : Option (Int) := (spec_Stabilize.f k a0_0 l0_1 l1 a2).bind fun bt102 => (if bt102.2.2 = true then ((spec_DegreeOf.f k bt102.2.1).bind fun t109 => (some t109)) else (some (-1)))
theorem spec_AvalancheSize.mono : ∀ a0 a1 a2 a3 k, LeO (spec_AvalancheSize.f k a0 a1 a2 a3) (spec_AvalancheSize.f (k + 1) a0 a1 a2 a3) := by
  intro a0 a1 a2 a3 k; unfold spec_AvalancheSize.f
  repeat' first
      | (with_reducible exact spec_DegreeOf.mono _ _)
      | (with_reducible exact spec_Stabilize.mono _ _ _ _ _)
      | (with_reducible exact LeO.refl _)
      | (with_reducible exact LeO.none _)
      | (with_reducible refine LeO.ite ?_ ?_)
      | (with_reducible refine LeO.bind ?_ (fun _ => ?_))
      | exact spec_DegreeOf.mono _ _
      | exact spec_Stabilize.mono _ _ _ _ _
      | exact LeO.none _
      | refine LeO.ite ?_ ?_
      | refine LeO.bind ?_ (fun _ => ?_)
end Go.Proofs.Ytjecgolakaiddaa.P
end

section
namespace Go.Proofs.Ytjecgolakaiddaa.P
open Go.RowKit Go.Proofs.YtjecgolakaiddaaW.PrintWords Go.Proofs.YtjecgolakaiddaaW.PrintLast Go.Proofs.YtjecgolakaiddaaW.PrintMore
attribute [local go_sem] max2_int min2_int max_two min_two max_three min_three max_four min_four
set_option linter.unusedVariables false
set_option linter.unusedSimpArgs false
def impl_AvalancheSize.f (k : Nat) (a0_0 : Int) (l0_1 : List (S70)) (l1 : List Int) (a2 : Int) : Option (Int) := (impl_Stabilize.f k a0_0 l0_1 l1 a2).bind fun bt102 => (if bt102.2.2 = true then ((impl_sumOf.f k bt102.2.1).bind fun t109 => (some t109)) else (some (-1)))
theorem impl_AvalancheSize.mono : ∀ a0 a1 a2 a3 k, LeO (impl_AvalancheSize.f k a0 a1 a2 a3) (impl_AvalancheSize.f (k + 1) a0 a1 a2 a3) := by
  intro a0 a1 a2 a3 k; unfold impl_AvalancheSize.f
  repeat' first
      | (with_reducible exact impl_Stabilize.mono _ _ _ _ _)
      | (with_reducible exact impl_sumOf.mono _ _)
      | (with_reducible exact LeO.refl _)
      | (with_reducible exact LeO.none _)
      | (with_reducible refine LeO.ite ?_ ?_)
      | (with_reducible refine LeO.bind ?_ (fun _ => ?_))
      | exact impl_Stabilize.mono _ _ _ _ _
      | exact impl_sumOf.mono _ _
      | exact LeO.none _
      | refine LeO.ite ?_ ?_
      | refine LeO.bind ?_ (fun _ => ?_)
end Go.Proofs.Ytjecgolakaiddaa.P
end

section
namespace Go.Proofs.Ytjecgolakaiddaa.P
open Go.RowKit Go.Proofs.YtjecgolakaiddaaW.PrintWords Go.Proofs.YtjecgolakaiddaaW.PrintLast Go.Proofs.YtjecgolakaiddaaW.PrintMore
attribute [local go_sem] max2_int min2_int max_two min_two max_three min_three max_four min_four
set_option linter.unusedVariables false
set_option linter.unusedSimpArgs false
mutual
def spec_FullPile.j0 : Nat → Int → Bool → Int → List (S70) → Option (List Int)
  | 0, _, _, _, _ => none
  | k + 1, x1, x17, x102000, x102001 => if x17 = true then (some ([] : List Int)) else (spec_FullPile.l0 k x1 (([] : List Int)) 0 x102000 x102001)
def spec_FullPile.l0 : Nat → Int → List Int → Int → Int → List (S70) → Option (List Int)
  | 0, _, _, _, _, _ => none
  | k + 1, x1, x5, x6, x102000, x102001 => if x6 < x102000 then (if x6 = x1 then (if x5.length < 17592186044416 then (spec_FullPile.l0 k x1 (x5 ++ [0]) (wrap64 (x6 + 1)) x102000 x102001) else (none)) else ((spec_Valence.f k x102000 x102001 x6).bind fun t110 => (if x5.length < 17592186044416 then (spec_FullPile.l0 k x1 (x5 ++ [wrap64 (t110 - 1)]) (wrap64 (x6 + 1)) x102000 x102001) else (none)))) else (some x5)
end
def spec_FullPile.f (k : Nat) (a0_0 : Int) (l0_1 : List (S70)) (a1 : Int) : Option (List Int) := (spec_GraphOk.f k a0_0 l0_1).bind fun t102 => (if t102 = true then ((spec_l01In.f a1 0 (wrap64 (a0_0 - 1))).bind fun t103 => (spec_FullPile.j0 k a1 (!t103) a0_0 l0_1)) else (spec_FullPile.j0 k a1 true a0_0 l0_1))
theorem spec_FullPile.mono_l : ∀ k, (∀ y0 y1 y2 y3, LeO (spec_FullPile.j0 k y0 y1 y2 y3) (spec_FullPile.j0 (k + 1) y0 y1 y2 y3)) ∧ (∀ y0 y1 y2 y3 y4, LeO (spec_FullPile.l0 k y0 y1 y2 y3 y4) (spec_FullPile.l0 (k + 1) y0 y1 y2 y3 y4))
  | 0 => ⟨fun _ _ _ _ r h => by simp [spec_FullPile.j0] at h, fun _ _ _ _ _ r h => by simp [spec_FullPile.l0] at h⟩
  | k + 1 => by
    obtain ⟨ih0, ih1⟩ := spec_FullPile.mono_l k
    refine ⟨?_, ?_⟩
    · intro y0 y1 y2 y3
      unfold spec_FullPile.j0
      repeat' first
      | (with_reducible exact ih0 _ _ _ _)
      | (with_reducible exact ih1 _ _ _ _ _)
      | (with_reducible exact spec_GraphOk.mono _ _ _)
      | (with_reducible exact spec_Valence.mono _ _ _ _)
      | (with_reducible exact LeO.refl _)
      | (with_reducible exact LeO.none _)
      | (with_reducible refine LeO.ite ?_ ?_)
      | (with_reducible refine LeO.bind ?_ (fun _ => ?_))
      | exact ih0 _ _ _ _
      | exact ih1 _ _ _ _ _
      | exact spec_GraphOk.mono _ _ _
      | exact spec_Valence.mono _ _ _ _
      | exact LeO.none _
      | refine LeO.ite ?_ ?_
      | refine LeO.bind ?_ (fun _ => ?_)
    · intro y0 y1 y2 y3 y4
      unfold spec_FullPile.l0
      repeat' first
      | (with_reducible exact ih0 _ _ _ _)
      | (with_reducible exact ih1 _ _ _ _ _)
      | (with_reducible exact spec_GraphOk.mono _ _ _)
      | (with_reducible exact spec_Valence.mono _ _ _ _)
      | (with_reducible exact LeO.refl _)
      | (with_reducible exact LeO.none _)
      | (with_reducible refine LeO.ite ?_ ?_)
      | (with_reducible refine LeO.bind ?_ (fun _ => ?_))
      | exact ih0 _ _ _ _
      | exact ih1 _ _ _ _ _
      | exact spec_GraphOk.mono _ _ _
      | exact spec_Valence.mono _ _ _ _
      | exact LeO.none _
      | refine LeO.ite ?_ ?_
      | refine LeO.bind ?_ (fun _ => ?_)
theorem spec_FullPile.mono : ∀ a0 a1 a2 k, LeO (spec_FullPile.f k a0 a1 a2) (spec_FullPile.f (k + 1) a0 a1 a2) := by
  intro a0 a1 a2 k; obtain ⟨ih0, ih1⟩ := spec_FullPile.mono_l k; unfold spec_FullPile.f
  repeat' first
      | (with_reducible exact ih0 _ _ _ _)
      | (with_reducible exact ih1 _ _ _ _ _)
      | (with_reducible exact spec_GraphOk.mono _ _ _)
      | (with_reducible exact spec_Valence.mono _ _ _ _)
      | (with_reducible exact LeO.refl _)
      | (with_reducible exact LeO.none _)
      | (with_reducible refine LeO.ite ?_ ?_)
      | (with_reducible refine LeO.bind ?_ (fun _ => ?_))
      | exact ih0 _ _ _ _
      | exact ih1 _ _ _ _ _
      | exact spec_GraphOk.mono _ _ _
      | exact spec_Valence.mono _ _ _ _
      | exact LeO.none _
      | refine LeO.ite ?_ ?_
      | refine LeO.bind ?_ (fun _ => ?_)
end Go.Proofs.Ytjecgolakaiddaa.P
end

section
namespace Go.Proofs.Ytjecgolakaiddaa.P
open Go.RowKit Go.Proofs.YtjecgolakaiddaaW.PrintWords Go.Proofs.YtjecgolakaiddaaW.PrintLast Go.Proofs.YtjecgolakaiddaaW.PrintMore
attribute [local go_sem] max2_int min2_int max_two min_two max_three min_three max_four min_four
set_option linter.unusedVariables false
set_option linter.unusedSimpArgs false
def impl_FullPile.l0 : Nat → Int → List Int → Int → Int → Int → List (S70) → Option (List Int)
  | 0, _, _, _, _, _, _ => none
  | k + 1, x1, x5, x15, x16, x102000, x102001 => if x16 < x15 then (if x16 = x1 then (impl_FullPile.l0 k x1 x5 x15 (wrap64 (x16 + 1)) x102000 x102001) else ((impl_Valence.f k x102000 x102001 x16).bind fun t106 => (if 0 ≤ x16 then (if x16 < (x5.length : Int) then (impl_FullPile.l0 k x1 (x5.set (x16 : Int).toNat (wrap64 (t106 - 1))) x15 (wrap64 (x16 + 1)) x102000 x102001) else (none)) else (none)))) else (some x5)
def impl_FullPile.f (k : Nat) (a0_0 : Int) (l0_1 : List (S70)) (a1 : Int) : Option (List Int) := (impl_isVertex.f a0_0 l0_1 a1).bind fun t102 => (if t102 = true then (if 0 ≤ a0_0 then (if (a0_0 : Int).toNat ≤ 35184372088832 then ((some (List.replicate (a0_0 : Int).toNat 0 : List Int)).bind fun y103 => (impl_FullPile.l0 k a1 y103 (y103.length : Int) 0 a0_0 l0_1)) else (none)) else (none)) else (some ([] : List Int)))
theorem impl_FullPile.mono_l : ∀ k, (∀ y0 y1 y2 y3 y4 y5, LeO (impl_FullPile.l0 k y0 y1 y2 y3 y4 y5) (impl_FullPile.l0 (k + 1) y0 y1 y2 y3 y4 y5))
  | 0 => fun _ _ _ _ _ _ r h => by simp [impl_FullPile.l0] at h
  | k + 1 => by
    have ih0 := impl_FullPile.mono_l k
    · intro y0 y1 y2 y3 y4 y5
      unfold impl_FullPile.l0
      repeat' first
      | (with_reducible exact ih0 _ _ _ _ _ _)
      | (with_reducible exact impl_Valence.mono _ _ _ _)
      | (with_reducible exact LeO.refl _)
      | (with_reducible exact LeO.none _)
      | (with_reducible refine LeO.ite ?_ ?_)
      | (with_reducible refine LeO.bind ?_ (fun _ => ?_))
      | exact ih0 _ _ _ _ _ _
      | exact impl_Valence.mono _ _ _ _
      | exact LeO.none _
      | refine LeO.ite ?_ ?_
      | refine LeO.bind ?_ (fun _ => ?_)
theorem impl_FullPile.mono : ∀ a0 a1 a2 k, LeO (impl_FullPile.f k a0 a1 a2) (impl_FullPile.f (k + 1) a0 a1 a2) := by
  intro a0 a1 a2 k; have ih0 := impl_FullPile.mono_l k; unfold impl_FullPile.f
  repeat' first
      | (with_reducible exact ih0 _ _ _ _ _ _)
      | (with_reducible exact impl_Valence.mono _ _ _ _)
      | (with_reducible exact LeO.refl _)
      | (with_reducible exact LeO.none _)
      | (with_reducible refine LeO.ite ?_ ?_)
      | (with_reducible refine LeO.bind ?_ (fun _ => ?_))
      | exact ih0 _ _ _ _ _ _
      | exact impl_Valence.mono _ _ _ _
      | exact LeO.none _
      | refine LeO.ite ?_ ?_
      | refine LeO.bind ?_ (fun _ => ?_)
end Go.Proofs.Ytjecgolakaiddaa.P
end

section
namespace Go.Proofs.Ytjecgolakaiddaa.P
open Go.RowKit Go.Proofs.YtjecgolakaiddaaW.PrintWords Go.Proofs.YtjecgolakaiddaaW.PrintLast Go.Proofs.YtjecgolakaiddaaW.PrintMore
attribute [local go_sem] max2_int min2_int max_two min_two max_three min_three max_four min_four
set_option linter.unusedVariables false
set_option linter.unusedSimpArgs false
def impl_plus.l0 : Nat → List Int → List Int → Int → Int → Option (List Int)
  | 0, _, _, _, _ => none
  | k + 1, x1, x5, x10, x11 => if x11 < x10 then (if 0 ≤ x11 then (if x11 < (x5.length : Int) then (if x11 < (x1.length : Int) then (impl_plus.l0 k x1 (x5.set (x11 : Int).toNat (wrap64 ((rd x5 x11) + (rd x1 x11)))) x10 (wrap64 (x11 + 1))) else (none)) else (none)) else (none)) else (some x5)
def impl_plus.f (k : Nat) (l0 : List Int) (l1 : List Int) : Option (List Int) := (impl_copyInts.f l0).bind fun t101 => (impl_plus.l0 k l1 t101 (t101.length : Int) 0)
theorem impl_plus.mono_l : ∀ k, (∀ y0 y1 y2 y3, LeO (impl_plus.l0 k y0 y1 y2 y3) (impl_plus.l0 (k + 1) y0 y1 y2 y3))
  | 0 => fun _ _ _ _ r h => by simp [impl_plus.l0] at h
  | k + 1 => by
    have ih0 := impl_plus.mono_l k
    · intro y0 y1 y2 y3
      unfold impl_plus.l0
      repeat' first
      | (with_reducible exact ih0 _ _ _ _)
      | (with_reducible exact LeO.refl _)
      | (with_reducible exact LeO.none _)
      | (with_reducible refine LeO.ite ?_ ?_)
      | (with_reducible refine LeO.bind ?_ (fun _ => ?_))
      | exact ih0 _ _ _ _
      | exact LeO.none _
      | refine LeO.ite ?_ ?_
      | refine LeO.bind ?_ (fun _ => ?_)
theorem impl_plus.mono : ∀ a0 a1 k, LeO (impl_plus.f k a0 a1) (impl_plus.f (k + 1) a0 a1) := by
  intro a0 a1 k; have ih0 := impl_plus.mono_l k; unfold impl_plus.f
  repeat' first
      | (with_reducible exact ih0 _ _ _ _)
      | (with_reducible exact LeO.refl _)
      | (with_reducible exact LeO.none _)
      | (with_reducible refine LeO.ite ?_ ?_)
      | (with_reducible refine LeO.bind ?_ (fun _ => ?_))
      | exact ih0 _ _ _ _
      | exact LeO.none _
      | refine LeO.ite ?_ ?_
      | refine LeO.bind ?_ (fun _ => ?_)
end Go.Proofs.Ytjecgolakaiddaa.P
end

section
namespace Go.Proofs.Ytjecgolakaiddaa.P
open Go.RowKit Go.Proofs.YtjecgolakaiddaaW.PrintWords Go.Proofs.YtjecgolakaiddaaW.PrintLast Go.Proofs.YtjecgolakaiddaaW.PrintMore
attribute [local go_sem] max2_int min2_int max_two min_two max_three min_three max_four min_four
set_option linter.unusedVariables false
set_option linter.unusedSimpArgs false
def spec_AddDivisors.l0 : Nat → List Int → List Int → List Int → Int → Int → Option (List Int × Bool)
  | 0, _, _, _, _, _ => none
  | k + 1, x1, x6, x15, x16, x17 => if x17 < x16 then (if 0 ≤ x17 then (if x17 < (x15.length : Int) then (if x17 < (x1.length : Int) then (if x6.length < 17592186044416 then (spec_AddDivisors.l0 k x1 (x6 ++ [wrap64 ((rd x15 x17) + (rd x1 x17))]) x15 x16 (wrap64 (x17 + 1))) else (none)) else (none)) else (none)) else (none)) else (some (x6, true))
def spec_AddDivisors.f (k : Nat) (l0 : List Int) (l1 : List Int) : Option (List Int × Bool) := if (l0.length : Int) = (l1.length : Int) then (spec_AddDivisors.l0 k l1 (([] : List Int)) l0 (l0.length : Int) 0) else (some (([] : List Int), false))
theorem spec_AddDivisors.mono_l : ∀ k, (∀ y0 y1 y2 y3 y4, LeO (spec_AddDivisors.l0 k y0 y1 y2 y3 y4) (spec_AddDivisors.l0 (k + 1) y0 y1 y2 y3 y4))
  | 0 => fun _ _ _ _ _ r h => by simp [spec_AddDivisors.l0] at h
  | k + 1 => by
    have ih0 := spec_AddDivisors.mono_l k
    · intro y0 y1 y2 y3 y4
      unfold spec_AddDivisors.l0
      repeat' first
      | (with_reducible exact ih0 _ _ _ _ _)
      | (with_reducible exact LeO.refl _)
      | (with_reducible exact LeO.none _)
      | (with_reducible refine LeO.ite ?_ ?_)
      | (with_reducible refine LeO.bind ?_ (fun _ => ?_))
      | exact ih0 _ _ _ _ _
      | exact LeO.none _
      | refine LeO.ite ?_ ?_
      | refine LeO.bind ?_ (fun _ => ?_)
theorem spec_AddDivisors.mono : ∀ a0 a1 k, LeO (spec_AddDivisors.f k a0 a1) (spec_AddDivisors.f (k + 1) a0 a1) := by
  intro a0 a1 k; have ih0 := spec_AddDivisors.mono_l k; unfold spec_AddDivisors.f
  repeat' first
      | (with_reducible exact ih0 _ _ _ _ _)
      | (with_reducible exact LeO.refl _)
      | (with_reducible exact LeO.none _)
      | (with_reducible refine LeO.ite ?_ ?_)
      | (with_reducible refine LeO.bind ?_ (fun _ => ?_))
      | exact ih0 _ _ _ _ _
      | exact LeO.none _
      | refine LeO.ite ?_ ?_
      | refine LeO.bind ?_ (fun _ => ?_)
end Go.Proofs.Ytjecgolakaiddaa.P
end

section
namespace Go.Proofs.Ytjecgolakaiddaa.P
open Go.RowKit Go.Proofs.YtjecgolakaiddaaW.PrintWords Go.Proofs.YtjecgolakaiddaaW.PrintLast Go.Proofs.YtjecgolakaiddaaW.PrintMore
attribute [local go_sem] max2_int min2_int max_two min_two max_three min_three max_four min_four
set_option linter.unusedVariables false
set_option linter.unusedSimpArgs false
def spec_l07Minus.l0 : Nat → List Int → List Int → List Int → Int → Int → Option (List Int)
  | 0, _, _, _, _, _ => none
  | k + 1, x1, x5, x9, x10, x11 => if x11 < x10 then (if 0 ≤ x11 then (if x11 < (x9.length : Int) then (if x11 < (x1.length : Int) then (if x5.length < 17592186044416 then (spec_l07Minus.l0 k x1 (x5 ++ [wrap64 ((rd x9 x11) - (rd x1 x11))]) x9 x10 (wrap64 (x11 + 1))) else (none)) else (none)) else (none)) else (none)) else (some x5)
def spec_l07Minus.f (k : Nat) (l0 : List Int) (l1 : List Int) : Option (List Int) := spec_l07Minus.l0 k l1 (([] : List Int)) l0 (l0.length : Int) 0
theorem spec_l07Minus.mono_l : ∀ k, (∀ y0 y1 y2 y3 y4, LeO (spec_l07Minus.l0 k y0 y1 y2 y3 y4) (spec_l07Minus.l0 (k + 1) y0 y1 y2 y3 y4))
  | 0 => fun _ _ _ _ _ r h => by simp [spec_l07Minus.l0] at h
  | k + 1 => by
    have ih0 := spec_l07Minus.mono_l k
    · intro y0 y1 y2 y3 y4
      unfold spec_l07Minus.l0
      repeat' first
      | (with_reducible exact ih0 _ _ _ _ _)
      | (with_reducible exact LeO.refl _)
      | (with_reducible exact LeO.none _)
      | (with_reducible refine LeO.ite ?_ ?_)
      | (with_reducible refine LeO.bind ?_ (fun _ => ?_))
      | exact ih0 _ _ _ _ _
      | exact LeO.none _
      | refine LeO.ite ?_ ?_
      | refine LeO.bind ?_ (fun _ => ?_)
theorem spec_l07Minus.mono : ∀ a0 a1 k, LeO (spec_l07Minus.f k a0 a1) (spec_l07Minus.f (k + 1) a0 a1) := by
  intro a0 a1 k; have ih0 := spec_l07Minus.mono_l k; unfold spec_l07Minus.f
  repeat' first
      | (with_reducible exact ih0 _ _ _ _ _)
      | (with_reducible exact LeO.refl _)
      | (with_reducible exact LeO.none _)
      | (with_reducible refine LeO.ite ?_ ?_)
      | (with_reducible refine LeO.bind ?_ (fun _ => ?_))
      | exact ih0 _ _ _ _ _
      | exact LeO.none _
      | refine LeO.ite ?_ ?_
      | refine LeO.bind ?_ (fun _ => ?_)
end Go.Proofs.Ytjecgolakaiddaa.P
end

section
namespace Go.Proofs.Ytjecgolakaiddaa.P
open Go.RowKit Go.Proofs.YtjecgolakaiddaaW.PrintWords Go.Proofs.YtjecgolakaiddaaW.PrintLast Go.Proofs.YtjecgolakaiddaaW.PrintMore
attribute [local go_sem] max2_int min2_int max_two min_two max_three min_three max_four min_four
set_option linter.unusedVariables false
set_option linter.unusedSimpArgs false
def impl_NegateDivisor.l0 : Nat → List Int → Int → Int → Option (List Int)
  | 0, _, _, _ => none
  | k + 1, x3, x8, x9 => if x9 < x8 then (if 0 ≤ x9 then (if x9 < (x3.length : Int) then (impl_NegateDivisor.l0 k (x3.set (x9 : Int).toNat (wrap64 (-(rd x3 x9)))) x8 (wrap64 (x9 + 1))) else (none)) else (none)) else (some x3)
def impl_NegateDivisor.f (k : Nat) (l0 : List Int) : Option (List Int) := (impl_copyInts.f l0).bind fun t101 => (impl_NegateDivisor.l0 k t101 (t101.length : Int) 0)
theorem impl_NegateDivisor.mono_l : ∀ k, (∀ y0 y1 y2, LeO (impl_NegateDivisor.l0 k y0 y1 y2) (impl_NegateDivisor.l0 (k + 1) y0 y1 y2))
  | 0 => fun _ _ _ r h => by simp [impl_NegateDivisor.l0] at h
  | k + 1 => by
    have ih0 := impl_NegateDivisor.mono_l k
    · intro y0 y1 y2
      unfold impl_NegateDivisor.l0
      repeat' first
      | (with_reducible exact ih0 _ _ _)
      | (with_reducible exact LeO.refl _)
      | (with_reducible exact LeO.none _)
      | (with_reducible refine LeO.ite ?_ ?_)
      | (with_reducible refine LeO.bind ?_ (fun _ => ?_))
      | exact ih0 _ _ _
      | exact LeO.none _
      | refine LeO.ite ?_ ?_
      | refine LeO.bind ?_ (fun _ => ?_)
theorem impl_NegateDivisor.mono : ∀ a0 k, LeO (impl_NegateDivisor.f k a0) (impl_NegateDivisor.f (k + 1) a0) := by
  intro a0 k; have ih0 := impl_NegateDivisor.mono_l k; unfold impl_NegateDivisor.f
  repeat' first
      | (with_reducible exact ih0 _ _ _)
      | (with_reducible exact LeO.refl _)
      | (with_reducible exact LeO.none _)
      | (with_reducible refine LeO.ite ?_ ?_)
      | (with_reducible refine LeO.bind ?_ (fun _ => ?_))
      | exact ih0 _ _ _
      | exact LeO.none _
      | refine LeO.ite ?_ ?_
      | refine LeO.bind ?_ (fun _ => ?_)
end Go.Proofs.Ytjecgolakaiddaa.P
end

section
namespace Go.Proofs.Ytjecgolakaiddaa.P
open Go.RowKit Go.Proofs.YtjecgolakaiddaaW.PrintWords Go.Proofs.YtjecgolakaiddaaW.PrintLast Go.Proofs.YtjecgolakaiddaaW.PrintMore
attribute [local go_sem] max2_int min2_int max_two min_two max_three min_three max_four min_four
set_option linter.unusedVariables false
set_option linter.unusedSimpArgs false
def spec_NegateDivisor.l0 : Nat → List Int → List Int → Int → Int → Option (List Int)
  | 0, _, _, _, _ => none
  | k + 1, x3, x7, x8, x9 => if x9 < x8 then (if 0 ≤ x9 then (if x9 < (x7.length : Int) then (if x3.length < 17592186044416 then (spec_NegateDivisor.l0 k (x3 ++ [wrap64 (-(rd x7 x9))]) x7 x8 (wrap64 (x9 + 1))) else (none)) else (none)) else (none)) else (some x3)
def spec_NegateDivisor.f (k : Nat) (l0 : List Int) : Option (List Int) := spec_NegateDivisor.l0 k (([] : List Int)) l0 (l0.length : Int) 0
theorem spec_NegateDivisor.mono_l : ∀ k, (∀ y0 y1 y2 y3, LeO (spec_NegateDivisor.l0 k y0 y1 y2 y3) (spec_NegateDivisor.l0 (k + 1) y0 y1 y2 y3))
  | 0 => fun _ _ _ _ r h => by simp [spec_NegateDivisor.l0] at h
  | k + 1 => by
    have ih0 := spec_NegateDivisor.mono_l k
    · intro y0 y1 y2 y3
      unfold spec_NegateDivisor.l0
      repeat' first
      | (with_reducible exact ih0 _ _ _ _)
      | (with_reducible exact LeO.refl _)
      | (with_reducible exact LeO.none _)
      | (with_reducible refine LeO.ite ?_ ?_)
      | (with_reducible refine LeO.bind ?_ (fun _ => ?_))
      | exact ih0 _ _ _ _
      | exact LeO.none _
      | refine LeO.ite ?_ ?_
      | refine LeO.bind ?_ (fun _ => ?_)
theorem spec_NegateDivisor.mono : ∀ a0 k, LeO (spec_NegateDivisor.f k a0) (spec_NegateDivisor.f (k + 1) a0) := by
  intro a0 k; have ih0 := spec_NegateDivisor.mono_l k; unfold spec_NegateDivisor.f
  repeat' first
      | (with_reducible exact ih0 _ _ _ _)
      | (with_reducible exact LeO.refl _)
      | (with_reducible exact LeO.none _)
      | (with_reducible refine LeO.ite ?_ ?_)
      | (with_reducible refine LeO.bind ?_ (fun _ => ?_))
      | exact ih0 _ _ _ _
      | exact LeO.none _
      | refine LeO.ite ?_ ?_
      | refine LeO.bind ?_ (fun _ => ?_)
end Go.Proofs.Ytjecgolakaiddaa.P
end

section
namespace Go.Proofs.Ytjecgolakaiddaa.P
open Go.RowKit Go.Proofs.YtjecgolakaiddaaW.PrintWords Go.Proofs.YtjecgolakaiddaaW.PrintLast Go.Proofs.YtjecgolakaiddaaW.PrintMore
attribute [local go_sem] max2_int min2_int max_two min_two max_three min_three max_four min_four
set_option linter.unusedVariables false
set_option linter.unusedSimpArgs false
def slices_Equal_int_int.l0 : Nat → List Int → List Int → Int → Int → Option (Bool)
  | 0, _, _, _, _ => none
  | k + 1, x0, x1, x12, x13 => if x13 < x12 then (if 0 ≤ x13 then (if x13 < (x0.length : Int) then (if x13 < (x1.length : Int) then (if (rd x0 x13) = (rd x1 x13) then (slices_Equal_int_int.l0 k x0 x1 x12 (wrap64 (x13 + 1))) else (some false)) else (none)) else (none)) else (none)) else (some true)
def slices_Equal_int_int.f (k : Nat) (l0 : List Int) (l1 : List Int) : Option (Bool) := if (l0.length : Int) = (l1.length : Int) then (slices_Equal_int_int.l0 k l0 l1 (l0.length : Int) 0) else (some false)
theorem slices_Equal_int_int.mono_l : ∀ k, (∀ y0 y1 y2 y3, LeO (slices_Equal_int_int.l0 k y0 y1 y2 y3) (slices_Equal_int_int.l0 (k + 1) y0 y1 y2 y3))
  | 0 => fun _ _ _ _ r h => by simp [slices_Equal_int_int.l0] at h
  | k + 1 => by
    have ih0 := slices_Equal_int_int.mono_l k
    · intro y0 y1 y2 y3
      unfold slices_Equal_int_int.l0
      repeat' first
      | (with_reducible exact ih0 _ _ _ _)
      | (with_reducible exact LeO.refl _)
      | (with_reducible exact LeO.none _)
      | (with_reducible refine LeO.ite ?_ ?_)
      | (with_reducible refine LeO.bind ?_ (fun _ => ?_))
      | exact ih0 _ _ _ _
      | exact LeO.none _
      | refine LeO.ite ?_ ?_
      | refine LeO.bind ?_ (fun _ => ?_)
theorem slices_Equal_int_int.mono : ∀ a0 a1 k, LeO (slices_Equal_int_int.f k a0 a1) (slices_Equal_int_int.f (k + 1) a0 a1) := by
  intro a0 a1 k; have ih0 := slices_Equal_int_int.mono_l k; unfold slices_Equal_int_int.f
  repeat' first
      | (with_reducible exact ih0 _ _ _ _)
      | (with_reducible exact LeO.refl _)
      | (with_reducible exact LeO.none _)
      | (with_reducible refine LeO.ite ?_ ?_)
      | (with_reducible refine LeO.bind ?_ (fun _ => ?_))
      | exact ih0 _ _ _ _
      | exact LeO.none _
      | refine LeO.ite ?_ ?_
      | refine LeO.bind ?_ (fun _ => ?_)
end Go.Proofs.Ytjecgolakaiddaa.P
end

section
namespace Go.Proofs.Ytjecgolakaiddaa.P
open Go.RowKit Go.Proofs.YtjecgolakaiddaaW.PrintWords Go.Proofs.YtjecgolakaiddaaW.PrintLast Go.Proofs.YtjecgolakaiddaaW.PrintMore
attribute [local go_sem] max2_int min2_int max_two min_two max_three min_three max_four min_four
set_option linter.unusedVariables false
set_option linter.unusedSimpArgs false
def impl_SameDivisor.f (k : Nat) (l0 : List Int) (l1 : List Int) : Option (Bool) := (slices_Equal_int_int.f k l0 l1).bind fun t101 => (some t101)
theorem impl_SameDivisor.mono : ∀ a0 a1 k, LeO (impl_SameDivisor.f k a0 a1) (impl_SameDivisor.f (k + 1) a0 a1) := by
  intro a0 a1 k; unfold impl_SameDivisor.f
  repeat' first
      | (with_reducible exact slices_Equal_int_int.mono _ _ _)
      | (with_reducible exact LeO.refl _)
      | (with_reducible exact LeO.none _)
      | (with_reducible refine LeO.ite ?_ ?_)
      | (with_reducible refine LeO.bind ?_ (fun _ => ?_))
      | exact slices_Equal_int_int.mono _ _ _
      | exact LeO.none _
      | refine LeO.ite ?_ ?_
      | refine LeO.bind ?_ (fun _ => ?_)
end Go.Proofs.Ytjecgolakaiddaa.P
end

section
namespace Go.Proofs.Ytjecgolakaiddaa.P
open Go.RowKit Go.Proofs.YtjecgolakaiddaaW.PrintWords Go.Proofs.YtjecgolakaiddaaW.PrintLast Go.Proofs.YtjecgolakaiddaaW.PrintMore
attribute [local go_sem] max2_int min2_int max_two min_two max_three min_three max_four min_four
set_option linter.unusedVariables false
set_option linter.unusedSimpArgs false
def spec_SameDivisor.l0 : Nat → List Int → List Int → Int → Int → Option (Bool)
  | 0, _, _, _, _ => none
  | k + 1, x1, x12, x13, x14 => if x14 < x13 then (if 0 ≤ x14 then (if x14 < (x12.length : Int) then (if x14 < (x1.length : Int) then (if (rd x12 x14) = (rd x1 x14) then (spec_SameDivisor.l0 k x1 x12 x13 (wrap64 (x14 + 1))) else (some false)) else (none)) else (none)) else (none)) else (some true)
def spec_SameDivisor.f (k : Nat) (l0 : List Int) (l1 : List Int) : Option (Bool) := if (l0.length : Int) = (l1.length : Int) then (spec_SameDivisor.l0 k l1 l0 (l0.length : Int) 0) else (some false)
theorem spec_SameDivisor.mono_l : ∀ k, (∀ y0 y1 y2 y3, LeO (spec_SameDivisor.l0 k y0 y1 y2 y3) (spec_SameDivisor.l0 (k + 1) y0 y1 y2 y3))
  | 0 => fun _ _ _ _ r h => by simp [spec_SameDivisor.l0] at h
  | k + 1 => by
    have ih0 := spec_SameDivisor.mono_l k
    · intro y0 y1 y2 y3
      unfold spec_SameDivisor.l0
      repeat' first
      | (with_reducible exact ih0 _ _ _ _)
      | (with_reducible exact LeO.refl _)
      | (with_reducible exact LeO.none _)
      | (with_reducible refine LeO.ite ?_ ?_)
      | (with_reducible refine LeO.bind ?_ (fun _ => ?_))
      | exact ih0 _ _ _ _
      | exact LeO.none _
      | refine LeO.ite ?_ ?_
      | refine LeO.bind ?_ (fun _ => ?_)
theorem spec_SameDivisor.mono : ∀ a0 a1 k, LeO (spec_SameDivisor.f k a0 a1) (spec_SameDivisor.f (k + 1) a0 a1) := by
  intro a0 a1 k; have ih0 := spec_SameDivisor.mono_l k; unfold spec_SameDivisor.f
  repeat' first
      | (with_reducible exact ih0 _ _ _ _)
      | (with_reducible exact LeO.refl _)
      | (with_reducible exact LeO.none _)
      | (with_reducible refine LeO.ite ?_ ?_)
      | (with_reducible refine LeO.bind ?_ (fun _ => ?_))
      | exact ih0 _ _ _ _
      | exact LeO.none _
      | refine LeO.ite ?_ ?_
      | refine LeO.bind ?_ (fun _ => ?_)
end Go.Proofs.Ytjecgolakaiddaa.P
end

section
namespace Go.Proofs.Ytjecgolakaiddaa.P
open Go.RowKit Go.Proofs.YtjecgolakaiddaaW.PrintWords Go.Proofs.YtjecgolakaiddaaW.PrintLast Go.Proofs.YtjecgolakaiddaaW.PrintMore
attribute [local go_sem] max2_int min2_int max_two min_two max_three min_three max_four min_four
set_option linter.unusedVariables false
set_option linter.unusedSimpArgs false
def impl_oneAt.f (a0_0 : Int) (l0_1 : List (S70)) (a1 : Int) (a2 : Int) : Option (List Int) := if 0 ≤ a0_0 then (if (a0_0 : Int).toNat ≤ 35184372088832 then ((some (List.replicate (a0_0 : Int).toNat 0 : List Int)).bind fun y102 => (if 0 ≤ a1 then (if a1 < (y102.length : Int) then (some (y102.set (a1 : Int).toNat a2)) else (none)) else (none))) else (none)) else (none)
end Go.Proofs.Ytjecgolakaiddaa.P
end

section
namespace Go.Proofs.Ytjecgolakaiddaa.P
open Go.RowKit Go.Proofs.YtjecgolakaiddaaW.PrintWords Go.Proofs.YtjecgolakaiddaaW.PrintLast Go.Proofs.YtjecgolakaiddaaW.PrintMore
attribute [local go_sem] max2_int min2_int max_two min_two max_three min_three max_four min_four
set_option linter.unusedVariables false
set_option linter.unusedSimpArgs false
def spec_SumOfPiles.j0 : Nat → List Int → List Int → Int → Bool → Int → List (S70) → Option (List Int × Bool)
  | 0, _, _, _, _, _, _ => none
  | k + 1, x1, x2, x3, x26, x102000, x102001 => if x26 = true then (some (([] : List Int), false)) else ((spec_AddDivisors.f k x1 x2).bind fun bt104 => ((spec_Stabilize.f k x102000 x102001 bt104.1 x3).bind fun bt108 => (some (bt108.1, bt108.2.2))))
def spec_SumOfPiles.f (k : Nat) (a0_0 : Int) (l0_1 : List (S70)) (l1 : List Int) (l2 : List Int) (a3 : Int) : Option (List Int × Bool) := (spec_PileOk.f k a0_0 l0_1 l1 a3).bind fun t102 => (if t102 = true then ((spec_PileOk.f k a0_0 l0_1 l2 a3).bind fun t103 => (spec_SumOfPiles.j0 k l1 l2 a3 (!t103) a0_0 l0_1)) else (spec_SumOfPiles.j0 k l1 l2 a3 true a0_0 l0_1))
theorem spec_SumOfPiles.mono_l : ∀ k, (∀ y0 y1 y2 y3 y4 y5, LeO (spec_SumOfPiles.j0 k y0 y1 y2 y3 y4 y5) (spec_SumOfPiles.j0 (k + 1) y0 y1 y2 y3 y4 y5))
  | 0 => fun _ _ _ _ _ _ r h => by simp [spec_SumOfPiles.j0] at h
  | k + 1 => by
    have ih0 := spec_SumOfPiles.mono_l k
    · intro y0 y1 y2 y3 y4 y5
      unfold spec_SumOfPiles.j0
      repeat' first
      | (with_reducible exact ih0 _ _ _ _ _ _)
      | (with_reducible exact spec_AddDivisors.mono _ _ _)
      | (with_reducible exact spec_PileOk.mono _ _ _ _ _)
      | (with_reducible exact spec_Stabilize.mono _ _ _ _ _)
      | (with_reducible exact LeO.refl _)
      | (with_reducible exact LeO.none _)
      | (with_reducible refine LeO.ite ?_ ?_)
      | (with_reducible refine LeO.bind ?_ (fun _ => ?_))
      | exact ih0 _ _ _ _ _ _
      | exact spec_AddDivisors.mono _ _ _
      | exact spec_PileOk.mono _ _ _ _ _
      | exact spec_Stabilize.mono _ _ _ _ _
      | exact LeO.none _
      | refine LeO.ite ?_ ?_
      | refine LeO.bind ?_ (fun _ => ?_)
theorem spec_SumOfPiles.mono : ∀ a0 a1 a2 a3 a4 k, LeO (spec_SumOfPiles.f k a0 a1 a2 a3 a4) (spec_SumOfPiles.f (k + 1) a0 a1 a2 a3 a4) := by
  intro a0 a1 a2 a3 a4 k; have ih0 := spec_SumOfPiles.mono_l k; unfold spec_SumOfPiles.f
  repeat' first
      | (with_reducible exact ih0 _ _ _ _ _ _)
      | (with_reducible exact spec_AddDivisors.mono _ _ _)
      | (with_reducible exact spec_PileOk.mono _ _ _ _ _)
      | (with_reducible exact spec_Stabilize.mono _ _ _ _ _)
      | (with_reducible exact LeO.refl _)
      | (with_reducible exact LeO.none _)
      | (with_reducible refine LeO.ite ?_ ?_)
      | (with_reducible refine LeO.bind ?_ (fun _ => ?_))
      | exact ih0 _ _ _ _ _ _
      | exact spec_AddDivisors.mono _ _ _
      | exact spec_PileOk.mono _ _ _ _ _
      | exact spec_Stabilize.mono _ _ _ _ _
      | exact LeO.none _
      | refine LeO.ite ?_ ?_
      | refine LeO.bind ?_ (fun _ => ?_)
end Go.Proofs.Ytjecgolakaiddaa.P
end

section
namespace Go.Proofs.Ytjecgolakaiddaa.P
open Go.RowKit Go.Proofs.YtjecgolakaiddaaW.PrintWords Go.Proofs.YtjecgolakaiddaaW.PrintLast Go.Proofs.YtjecgolakaiddaaW.PrintMore
attribute [local go_sem] max2_int min2_int max_two min_two max_three min_three max_four min_four
set_option linter.unusedVariables false
set_option linter.unusedSimpArgs false
def impl_SumOfPiles.j0 : Nat → List Int → List Int → Int → Bool → Int → List (S70) → Option (List Int × Bool)
  | 0, _, _, _, _, _, _ => none
  | k + 1, x1, x2, x3, x32, x102000, x102001 => if x32 = true then (some (([] : List Int), false)) else ((impl_plus.f k x1 x2).bind fun t108 => ((impl_stabilize.f k x102000 x102001 t108 x3).bind fun bt111 => (some (bt111.1, true))))
def impl_SumOfPiles.f (k : Nat) (a0_0 : Int) (l0_1 : List (S70)) (l1 : List Int) (l2 : List Int) (a3 : Int) : Option (List Int × Bool) := (impl_PileOk.f k a0_0 l0_1 l1 a3).bind fun t102 => (if t102 = true then ((impl_PileOk.f k a0_0 l0_1 l2 a3).bind fun t103 => (if t103 = true then ((impl_plus.f k l1 l2).bind fun t104 => ((impl_PileOk.f k a0_0 l0_1 t104 a3).bind fun t107 => (impl_SumOfPiles.j0 k l1 l2 a3 (!t107) a0_0 l0_1))) else (impl_SumOfPiles.j0 k l1 l2 a3 true a0_0 l0_1))) else (impl_SumOfPiles.j0 k l1 l2 a3 true a0_0 l0_1))
theorem impl_SumOfPiles.mono_l : ∀ k, (∀ y0 y1 y2 y3 y4 y5, LeO (impl_SumOfPiles.j0 k y0 y1 y2 y3 y4 y5) (impl_SumOfPiles.j0 (k + 1) y0 y1 y2 y3 y4 y5))
  | 0 => fun _ _ _ _ _ _ r h => by simp [impl_SumOfPiles.j0] at h
  | k + 1 => by
    have ih0 := impl_SumOfPiles.mono_l k
    · intro y0 y1 y2 y3 y4 y5
      unfold impl_SumOfPiles.j0
      repeat' first
      | (with_reducible exact ih0 _ _ _ _ _ _)
      | (with_reducible exact impl_PileOk.mono _ _ _ _ _)
      | (with_reducible exact impl_plus.mono _ _ _)
      | (with_reducible exact impl_stabilize.mono _ _ _ _ _)
      | (with_reducible exact LeO.refl _)
      | (with_reducible exact LeO.none _)
      | (with_reducible refine LeO.ite ?_ ?_)
      | (with_reducible refine LeO.bind ?_ (fun _ => ?_))
      | exact ih0 _ _ _ _ _ _
      | exact impl_PileOk.mono _ _ _ _ _
      | exact impl_plus.mono _ _ _
      | exact impl_stabilize.mono _ _ _ _ _
      | exact LeO.none _
      | refine LeO.ite ?_ ?_
      | refine LeO.bind ?_ (fun _ => ?_)
theorem impl_SumOfPiles.mono : ∀ a0 a1 a2 a3 a4 k, LeO (impl_SumOfPiles.f k a0 a1 a2 a3 a4) (impl_SumOfPiles.f (k + 1) a0 a1 a2 a3 a4) := by
  intro a0 a1 a2 a3 a4 k; have ih0 := impl_SumOfPiles.mono_l k; unfold impl_SumOfPiles.f
  repeat' first
      | (with_reducible exact ih0 _ _ _ _ _ _)
      | (with_reducible exact impl_PileOk.mono _ _ _ _ _)
      | (with_reducible exact impl_plus.mono _ _ _)
      | (with_reducible exact impl_stabilize.mono _ _ _ _ _)
      | (with_reducible exact LeO.refl _)
      | (with_reducible exact LeO.none _)
      | (with_reducible refine LeO.ite ?_ ?_)
      | (with_reducible refine LeO.bind ?_ (fun _ => ?_))
      | exact ih0 _ _ _ _ _ _
      | exact impl_PileOk.mono _ _ _ _ _
      | exact impl_plus.mono _ _ _
      | exact impl_stabilize.mono _ _ _ _ _
      | exact LeO.none _
      | refine LeO.ite ?_ ?_
      | refine LeO.bind ?_ (fun _ => ?_)
end Go.Proofs.Ytjecgolakaiddaa.P
end

section
namespace Go.Proofs.Ytjecgolakaiddaa.P
open Go.RowKit Go.Proofs.YtjecgolakaiddaaW.PrintWords Go.Proofs.YtjecgolakaiddaaW.PrintLast Go.Proofs.YtjecgolakaiddaaW.PrintMore
attribute [local go_sem] max2_int min2_int max_two min_two max_three min_three max_four min_four
set_option linter.unusedVariables false
set_option linter.unusedSimpArgs false
def spec_l11Lit.l0 : Nat → Int → List Int → List Int → Int → Int → Int → List (S70) → Option (List Int)
  | 0, _, _, _, _, _, _, _ => none
  | k + 1, x2, x7, x11, x12, x13, x102000, x102001 => if x13 < x12 then (if 0 ≤ x13 then (if x13 < (x11.length : Int) then ((spec_Multiplicity.f k x102000 x102001 x2 x13).bind fun t106 => (if x7.length < 17592186044416 then (spec_l11Lit.l0 k x2 (x7 ++ [wrap64 ((rd x11 x13) + t106)]) x11 x12 (wrap64 (x13 + 1)) x102000 x102001) else (none))) else (none)) else (none)) else (some x7)
def spec_l11Lit.f (k : Nat) (a0_0 : Int) (l0_1 : List (S70)) (l1 : List Int) (a2 : Int) : Option (List Int) := spec_l11Lit.l0 k a2 (([] : List Int)) l1 (l1.length : Int) 0 a0_0 l0_1
theorem spec_l11Lit.mono_l : ∀ k, (∀ y0 y1 y2 y3 y4 y5 y6, LeO (spec_l11Lit.l0 k y0 y1 y2 y3 y4 y5 y6) (spec_l11Lit.l0 (k + 1) y0 y1 y2 y3 y4 y5 y6))
  | 0 => fun _ _ _ _ _ _ _ r h => by simp [spec_l11Lit.l0] at h
  | k + 1 => by
    have ih0 := spec_l11Lit.mono_l k
    · intro y0 y1 y2 y3 y4 y5 y6
      unfold spec_l11Lit.l0
      repeat' first
      | (with_reducible exact ih0 _ _ _ _ _ _ _)
      | (with_reducible exact spec_Multiplicity.mono _ _ _ _ _)
      | (with_reducible exact LeO.refl _)
      | (with_reducible exact LeO.none _)
      | (with_reducible refine LeO.ite ?_ ?_)
      | (with_reducible refine LeO.bind ?_ (fun _ => ?_))
      | exact ih0 _ _ _ _ _ _ _
      | exact spec_Multiplicity.mono _ _ _ _ _
      | exact LeO.none _
      | refine LeO.ite ?_ ?_
      | refine LeO.bind ?_ (fun _ => ?_)
theorem spec_l11Lit.mono : ∀ a0 a1 a2 a3 k, LeO (spec_l11Lit.f k a0 a1 a2 a3) (spec_l11Lit.f (k + 1) a0 a1 a2 a3) := by
  intro a0 a1 a2 a3 k; have ih0 := spec_l11Lit.mono_l k; unfold spec_l11Lit.f
  repeat' first
      | (with_reducible exact ih0 _ _ _ _ _ _ _)
      | (with_reducible exact spec_Multiplicity.mono _ _ _ _ _)
      | (with_reducible exact LeO.refl _)
      | (with_reducible exact LeO.none _)
      | (with_reducible refine LeO.ite ?_ ?_)
      | (with_reducible refine LeO.bind ?_ (fun _ => ?_))
      | exact ih0 _ _ _ _ _ _ _
      | exact spec_Multiplicity.mono _ _ _ _ _
      | exact LeO.none _
      | refine LeO.ite ?_ ?_
      | refine LeO.bind ?_ (fun _ => ?_)
end Go.Proofs.Ytjecgolakaiddaa.P
end

section
namespace Go.Proofs.Ytjecgolakaiddaa.P
open Go.RowKit Go.Proofs.YtjecgolakaiddaaW.PrintWords Go.Proofs.YtjecgolakaiddaaW.PrintLast Go.Proofs.YtjecgolakaiddaaW.PrintMore
attribute [local go_sem] max2_int min2_int max_two min_two max_three min_three max_four min_four
set_option linter.unusedVariables false
set_option linter.unusedSimpArgs false
def spec_IsRecurrent.l0 : Nat → List Int → Int → List Int → List Int → Int → Int → Option (Bool)
  | 0, _, _, _, _, _, _ => none
  | k + 1, x1, x2, x7, x26, x27, x28 => if x28 < x27 then (if 0 ≤ x28 then (if x28 < (x26.length : Int) then (if x28 = x2 then (spec_IsRecurrent.l0 k x1 x2 x7 x26 x27 (wrap64 (x28 + 1))) else (if (rd x26 x28) = 1 then (spec_IsRecurrent.l0 k x1 x2 x7 x26 x27 (wrap64 (x28 + 1))) else (some false))) else (none)) else (none)) else ((spec_SameDivisor.f k x7 x1).bind fun t113 => (some t113))
def spec_IsRecurrent.f (k : Nat) (a0_0 : Int) (l0_1 : List (S70)) (l1 : List Int) (a2 : Int) : Option (Bool) := (spec_IsStable.f k a0_0 l0_1 l1 a2).bind fun t102 => (if t102 = true then ((spec_l11Lit.f k a0_0 l0_1 l1 a2).bind fun t103 => ((spec_l10Settle.f k a0_0 l0_1 t103 a2).bind fun bt106 => (spec_IsRecurrent.l0 k l1 a2 bt106.1 bt106.2 (bt106.2.length : Int) 0))) else (some false))
theorem spec_IsRecurrent.mono_l : ∀ k, (∀ y0 y1 y2 y3 y4 y5, LeO (spec_IsRecurrent.l0 k y0 y1 y2 y3 y4 y5) (spec_IsRecurrent.l0 (k + 1) y0 y1 y2 y3 y4 y5))
  | 0 => fun _ _ _ _ _ _ r h => by simp [spec_IsRecurrent.l0] at h
  | k + 1 => by
    have ih0 := spec_IsRecurrent.mono_l k
    · intro y0 y1 y2 y3 y4 y5
      unfold spec_IsRecurrent.l0
      repeat' first
      | (with_reducible exact ih0 _ _ _ _ _ _)
      | (with_reducible exact spec_IsStable.mono _ _ _ _ _)
      | (with_reducible exact spec_SameDivisor.mono _ _ _)
      | (with_reducible exact spec_l10Settle.mono _ _ _ _ _)
      | (with_reducible exact spec_l11Lit.mono _ _ _ _ _)
      | (with_reducible exact LeO.refl _)
      | (with_reducible exact LeO.none _)
      | (with_reducible refine LeO.ite ?_ ?_)
      | (with_reducible refine LeO.bind ?_ (fun _ => ?_))
      | exact ih0 _ _ _ _ _ _
      | exact spec_IsStable.mono _ _ _ _ _
      | exact spec_SameDivisor.mono _ _ _
      | exact spec_l10Settle.mono _ _ _ _ _
      | exact spec_l11Lit.mono _ _ _ _ _
      | exact LeO.none _
      | refine LeO.ite ?_ ?_
      | refine LeO.bind ?_ (fun _ => ?_)
theorem spec_IsRecurrent.mono : ∀ a0 a1 a2 a3 k, LeO (spec_IsRecurrent.f k a0 a1 a2 a3) (spec_IsRecurrent.f (k + 1) a0 a1 a2 a3) := by
  intro a0 a1 a2 a3 k; have ih0 := spec_IsRecurrent.mono_l k; unfold spec_IsRecurrent.f
  repeat' first
      | (with_reducible exact ih0 _ _ _ _ _ _)
      | (with_reducible exact spec_IsStable.mono _ _ _ _ _)
      | (with_reducible exact spec_SameDivisor.mono _ _ _)
      | (with_reducible exact spec_l10Settle.mono _ _ _ _ _)
      | (with_reducible exact spec_l11Lit.mono _ _ _ _ _)
      | (with_reducible exact LeO.refl _)
      | (with_reducible exact LeO.none _)
      | (with_reducible refine LeO.ite ?_ ?_)
      | (with_reducible refine LeO.bind ?_ (fun _ => ?_))
      | exact ih0 _ _ _ _ _ _
      | exact spec_IsStable.mono _ _ _ _ _
      | exact spec_SameDivisor.mono _ _ _
      | exact spec_l10Settle.mono _ _ _ _ _
      | exact spec_l11Lit.mono _ _ _ _ _
      | exact LeO.none _
      | refine LeO.ite ?_ ?_
      | refine LeO.bind ?_ (fun _ => ?_)
end Go.Proofs.Ytjecgolakaiddaa.P
end

section
namespace Go.Proofs.Ytjecgolakaiddaa.P
open Go.RowKit Go.Proofs.YtjecgolakaiddaaW.PrintWords Go.Proofs.YtjecgolakaiddaaW.PrintLast Go.Proofs.YtjecgolakaiddaaW.PrintMore
attribute [local go_sem] max2_int min2_int max_two min_two max_three min_three max_four min_four
set_option linter.unusedVariables false
set_option linter.unusedSimpArgs false
def impl_IsRecurrent.l0 : Nat → List Int → Int → List Int → List Int → Int → Int → Option (Bool)
  | 0, _, _, _, _, _, _ => none
  | k + 1, x1, x2, x8, x33, x34, x35 => if x35 < x34 then (if 0 ≤ x35 then (if x35 < (x33.length : Int) then (if x35 = x2 then (impl_IsRecurrent.l0 k x1 x2 x8 x33 x34 (wrap64 (x35 + 1))) else (if (rd x33 x35) = 1 then (impl_IsRecurrent.l0 k x1 x2 x8 x33 x34 (wrap64 (x35 + 1))) else (some false))) else (none)) else (none)) else ((impl_SameDivisor.f k x8 x1).bind fun t115 => (some t115))
def impl_IsRecurrent.f (k : Nat) (a0_0 : Int) (l0_1 : List (S70)) (l1 : List Int) (a2 : Int) : Option (Bool) := (impl_IsStable.f k a0_0 l0_1 l1 a2).bind fun t102 => (if t102 = true then ((impl_copyInts.f l1).bind fun t103 => ((impl_fire.f k a0_0 l0_1 t103 a2 1).bind fun t106 => (if 0 ≤ a2 then (if a2 < (t103.length : Int) then ((impl_stabilize.f k a0_0 l0_1 (t106.set (a2 : Int).toNat 0) a2).bind fun bt108 => (impl_IsRecurrent.l0 k l1 a2 bt108.1 bt108.2 (bt108.2.length : Int) 0)) else (none)) else (none)))) else (some false))
theorem impl_IsRecurrent.mono_l : ∀ k, (∀ y0 y1 y2 y3 y4 y5, LeO (impl_IsRecurrent.l0 k y0 y1 y2 y3 y4 y5) (impl_IsRecurrent.l0 (k + 1) y0 y1 y2 y3 y4 y5))
  | 0 => fun _ _ _ _ _ _ r h => by simp [impl_IsRecurrent.l0] at h
  | k + 1 => by
    have ih0 := impl_IsRecurrent.mono_l k
    · intro y0 y1 y2 y3 y4 y5
      unfold impl_IsRecurrent.l0
      repeat' first
      | (with_reducible exact ih0 _ _ _ _ _ _)
      | (with_reducible exact impl_IsStable.mono _ _ _ _ _)
      | (with_reducible exact impl_SameDivisor.mono _ _ _)
      | (with_reducible exact impl_fire.mono _ _ _ _ _ _)
      | (with_reducible exact impl_stabilize.mono _ _ _ _ _)
      | (with_reducible exact LeO.refl _)
      | (with_reducible exact LeO.none _)
      | (with_reducible refine LeO.ite ?_ ?_)
      | (with_reducible refine LeO.bind ?_ (fun _ => ?_))
      | exact ih0 _ _ _ _ _ _
      | exact impl_IsStable.mono _ _ _ _ _
      | exact impl_SameDivisor.mono _ _ _
      | exact impl_fire.mono _ _ _ _ _ _
      | exact impl_stabilize.mono _ _ _ _ _
      | exact LeO.none _
      | refine LeO.ite ?_ ?_
      | refine LeO.bind ?_ (fun _ => ?_)
theorem impl_IsRecurrent.mono : ∀ a0 a1 a2 a3 k, LeO (impl_IsRecurrent.f k a0 a1 a2 a3) (impl_IsRecurrent.f (k + 1) a0 a1 a2 a3) := by
  intro a0 a1 a2 a3 k; have ih0 := impl_IsRecurrent.mono_l k; unfold impl_IsRecurrent.f
  repeat' first
      | (with_reducible exact ih0 _ _ _ _ _ _)
      | (with_reducible exact impl_IsStable.mono _ _ _ _ _)
      | (with_reducible exact impl_SameDivisor.mono _ _ _)
      | (with_reducible exact impl_fire.mono _ _ _ _ _ _)
      | (with_reducible exact impl_stabilize.mono _ _ _ _ _)
      | (with_reducible exact LeO.refl _)
      | (with_reducible exact LeO.none _)
      | (with_reducible refine LeO.ite ?_ ?_)
      | (with_reducible refine LeO.bind ?_ (fun _ => ?_))
      | exact ih0 _ _ _ _ _ _
      | exact impl_IsStable.mono _ _ _ _ _
      | exact impl_SameDivisor.mono _ _ _
      | exact impl_fire.mono _ _ _ _ _ _
      | exact impl_stabilize.mono _ _ _ _ _
      | exact LeO.none _
      | refine LeO.ite ?_ ?_
      | refine LeO.bind ?_ (fun _ => ?_)
end Go.Proofs.Ytjecgolakaiddaa.P
end

section
namespace Go.Proofs.Ytjecgolakaiddaa.Cf
set_option linter.unusedVariables false
set_option linter.unusedSimpArgs false
open Go.RowKit Go.Proofs.YtjecgolakaiddaaW.PrintWords Go.Proofs.Ytjecgolakaiddaa.P
theorem Bd.of60 {p : List Int} (h : ∀ x ∈ p, -60 ≤ x ∧ x ≤ 60) : Bd p 60 := fun w h0 h1 => by
  obtain ⟨i, rfl⟩ := Int.eq_ofNat_of_zero_le h0
  have hi : i < p.length := by omega
  rw [rd_get hi]
  exact h _ (List.getElem_mem hi)
end Go.Proofs.Ytjecgolakaiddaa.Cf
end

section
namespace Go.Proofs.Ytjecgolakaiddaa.P
open Go.RowKit Go.Proofs.YtjecgolakaiddaaW.PrintWords Go.Proofs.YtjecgolakaiddaaW.PrintLast Go.Proofs.YtjecgolakaiddaaW.PrintMore
attribute [local go_sem] max2_int min2_int max_two min_two max_three min_three max_four min_four
set_option linter.unusedVariables false
set_option linter.unusedSimpArgs false
def impl_DegreeOf.f (k : Nat) (l0 : List Int) : Option (Int) := (impl_sumOf.f k l0).bind fun t101 => (some t101)
theorem impl_DegreeOf.mono : ∀ a0 k, LeO (impl_DegreeOf.f k a0) (impl_DegreeOf.f (k + 1) a0) := by
  intro a0 k; unfold impl_DegreeOf.f
  repeat' first
      | (with_reducible exact impl_sumOf.mono _ _)
      | (with_reducible exact LeO.refl _)
      | (with_reducible exact LeO.none _)
      | (with_reducible refine LeO.ite ?_ ?_)
      | (with_reducible refine LeO.bind ?_ (fun _ => ?_))
      | exact impl_sumOf.mono _ _
      | exact LeO.none _
      | refine LeO.ite ?_ ?_
      | refine LeO.bind ?_ (fun _ => ?_)
end Go.Proofs.Ytjecgolakaiddaa.P
end

section
namespace Go.Proofs.Ytjecgolakaiddaa.P
open Go.RowKit Go.Proofs.YtjecgolakaiddaaW.PrintWords Go.Proofs.YtjecgolakaiddaaW.PrintLast Go.Proofs.YtjecgolakaiddaaW.PrintMore
attribute [local go_sem] max2_int min2_int max_two min_two max_three min_three max_four min_four
set_option linter.unusedVariables false
set_option linter.unusedSimpArgs false
def spec_l09Zero.f (k : Nat) (a0_0 : Int) (l0_1 : List (S70)) (l1 : List Int) : Option (Bool) := (spec_DivisorOk.f k a0_0 l0_1 l1).bind fun t102 => (if t102 = true then ((spec_DegreeOf.f k l1).bind fun t103 => (some (t103 == 0))) else (some false))
theorem spec_l09Zero.mono : ∀ a0 a1 a2 k, LeO (spec_l09Zero.f k a0 a1 a2) (spec_l09Zero.f (k + 1) a0 a1 a2) := by
  intro a0 a1 a2 k; unfold spec_l09Zero.f
  repeat' first
      | (with_reducible exact spec_DegreeOf.mono _ _)
      | (with_reducible exact spec_DivisorOk.mono _ _ _ _)
      | (with_reducible exact LeO.refl _)
      | (with_reducible exact LeO.none _)
      | (with_reducible refine LeO.ite ?_ ?_)
      | (with_reducible refine LeO.bind ?_ (fun _ => ?_))
      | exact spec_DegreeOf.mono _ _
      | exact spec_DivisorOk.mono _ _ _ _
      | exact LeO.none _
      | refine LeO.ite ?_ ?_
      | refine LeO.bind ?_ (fun _ => ?_)
end Go.Proofs.Ytjecgolakaiddaa.P
end

section
namespace Go.Proofs.Ytjecgolakaiddaa.P
open Go.RowKit Go.Proofs.YtjecgolakaiddaaW.PrintWords Go.Proofs.YtjecgolakaiddaaW.PrintLast Go.Proofs.YtjecgolakaiddaaW.PrintMore
attribute [local go_sem] max2_int min2_int max_two min_two max_three min_three max_four min_four
set_option linter.unusedVariables false
set_option linter.unusedSimpArgs false
def impl_ofDegreeZero.f (k : Nat) (a0_0 : Int) (l0_1 : List (S70)) (l1 : List Int) : Option (Bool) := (impl_DivisorOk.f k a0_0 l0_1 l1).bind fun t102 => (if t102 = true then ((impl_DegreeOf.f k l1).bind fun t103 => (some (t103 == 0))) else (some false))
theorem impl_ofDegreeZero.mono : ∀ a0 a1 a2 k, LeO (impl_ofDegreeZero.f k a0 a1 a2) (impl_ofDegreeZero.f (k + 1) a0 a1 a2) := by
  intro a0 a1 a2 k; unfold impl_ofDegreeZero.f
  repeat' first
      | (with_reducible exact impl_DegreeOf.mono _ _)
      | (with_reducible exact impl_DivisorOk.mono _ _ _ _)
      | (with_reducible exact LeO.refl _)
      | (with_reducible exact LeO.none _)
      | (with_reducible refine LeO.ite ?_ ?_)
      | (with_reducible refine LeO.bind ?_ (fun _ => ?_))
      | exact impl_DegreeOf.mono _ _
      | exact impl_DivisorOk.mono _ _ _ _
      | exact LeO.none _
      | refine LeO.ite ?_ ?_
      | refine LeO.bind ?_ (fun _ => ?_)
end Go.Proofs.Ytjecgolakaiddaa.P
end

section
namespace Go.Proofs.Ytjecgolakaiddaa.P
open Go.RowKit Go.Proofs.YtjecgolakaiddaaW.PrintWords Go.Proofs.YtjecgolakaiddaaW.PrintLast Go.Proofs.YtjecgolakaiddaaW.PrintMore
attribute [local go_sem] max2_int min2_int max_two min_two max_three min_three max_four min_four
set_option linter.unusedVariables false
set_option linter.unusedSimpArgs false
def spec_l11Full.f (k : Nat) (a0_0 : Int) (l0_1 : List (S70)) (l1 : List Int) (a2 : Int) : Option (List Int) := (spec_FullPile.f k a0_0 l0_1 a2).bind fun t102 => ((spec_l07Minus.f k t102 l1).bind fun t105 => (if 0 ≤ a2 then (if a2 < (t105.length : Int) then (some (t105.set (a2 : Int).toNat 0)) else (none)) else (none)))
theorem spec_l11Full.mono : ∀ a0 a1 a2 a3 k, LeO (spec_l11Full.f k a0 a1 a2 a3) (spec_l11Full.f (k + 1) a0 a1 a2 a3) := by
  intro a0 a1 a2 a3 k; unfold spec_l11Full.f
  repeat' first
      | (with_reducible exact spec_FullPile.mono _ _ _ _)
      | (with_reducible exact spec_l07Minus.mono _ _ _)
      | (with_reducible exact LeO.refl _)
      | (with_reducible exact LeO.none _)
      | (with_reducible refine LeO.ite ?_ ?_)
      | (with_reducible refine LeO.bind ?_ (fun _ => ?_))
      | exact spec_FullPile.mono _ _ _ _
      | exact spec_l07Minus.mono _ _ _
      | exact LeO.none _
      | refine LeO.ite ?_ ?_
      | refine LeO.bind ?_ (fun _ => ?_)
end Go.Proofs.Ytjecgolakaiddaa.P
end

section
namespace Go.Proofs.Ytjecgolakaiddaa.P
open Go.RowKit Go.Proofs.YtjecgolakaiddaaW.PrintWords Go.Proofs.YtjecgolakaiddaaW.PrintLast Go.Proofs.YtjecgolakaiddaaW.PrintMore
attribute [local go_sem] max2_int min2_int max_two min_two max_three min_three max_four min_four
set_option linter.unusedVariables false
set_option linter.unusedSimpArgs false
def spec_l11Class.f (k : Nat) (a0_0 : Int) (l0_1 : List (S70)) (l1 : List Int) (a2 : Int) : Option (List Int) := (spec_FullPile.f k a0_0 l0_1 a2).bind fun t102 => ((spec_l07Minus.f k t102 l1).bind fun t105 => ((spec_l05Reduce.f k a0_0 l0_1 t105 a2).bind fun bt108 => ((spec_l11Full.f k a0_0 l0_1 bt108.1 a2).bind fun t114 => (some t114))))
theorem spec_l11Class.mono : ∀ a0 a1 a2 a3 k, LeO (spec_l11Class.f k a0 a1 a2 a3) (spec_l11Class.f (k + 1) a0 a1 a2 a3) := by
  intro a0 a1 a2 a3 k; unfold spec_l11Class.f
  repeat' first
      | (with_reducible exact spec_FullPile.mono _ _ _ _)
      | (with_reducible exact spec_l05Reduce.mono _ _ _ _ _)
      | (with_reducible exact spec_l07Minus.mono _ _ _)
      | (with_reducible exact spec_l11Full.mono _ _ _ _ _)
      | (with_reducible exact LeO.refl _)
      | (with_reducible exact LeO.none _)
      | (with_reducible refine LeO.ite ?_ ?_)
      | (with_reducible refine LeO.bind ?_ (fun _ => ?_))
      | exact spec_FullPile.mono _ _ _ _
      | exact spec_l05Reduce.mono _ _ _ _ _
      | exact spec_l07Minus.mono _ _ _
      | exact spec_l11Full.mono _ _ _ _ _
      | exact LeO.none _
      | refine LeO.ite ?_ ?_
      | refine LeO.bind ?_ (fun _ => ?_)
end Go.Proofs.Ytjecgolakaiddaa.P
end

section
namespace Go.Proofs.Ytjecgolakaiddaa.P
open Go.RowKit Go.Proofs.YtjecgolakaiddaaW.PrintWords Go.Proofs.YtjecgolakaiddaaW.PrintLast Go.Proofs.YtjecgolakaiddaaW.PrintMore
attribute [local go_sem] max2_int min2_int max_two min_two max_three min_three max_four min_four
set_option linter.unusedVariables false
set_option linter.unusedSimpArgs false
def impl_recurrentOf.f (k : Nat) (a0_0 : Int) (l0_1 : List (S70)) (l1 : List Int) (a2 : Int) : Option (List Int) := (impl_FullPile.f k a0_0 l0_1 a2).bind fun t102 => ((impl_NegateDivisor.f k l1).bind fun t105 => ((impl_plus.f k t102 t105).bind fun t108 => ((impl_reduce.f k a0_0 l0_1 t108 a2).bind fun bt111 => ((impl_NegateDivisor.f k bt111.1).bind fun t117 => ((impl_plus.f k t102 t117).bind fun t120 => (if 0 ≤ a2 then (if a2 < (t120.length : Int) then (some (t120.set (a2 : Int).toNat 0)) else (none)) else (none)))))))
theorem impl_recurrentOf.mono : ∀ a0 a1 a2 a3 k, LeO (impl_recurrentOf.f k a0 a1 a2 a3) (impl_recurrentOf.f (k + 1) a0 a1 a2 a3) := by
  intro a0 a1 a2 a3 k; unfold impl_recurrentOf.f
  repeat' first
      | (with_reducible exact impl_FullPile.mono _ _ _ _)
      | (with_reducible exact impl_NegateDivisor.mono _ _)
      | (with_reducible exact impl_plus.mono _ _ _)
      | (with_reducible exact impl_reduce.mono _ _ _ _ _)
      | (with_reducible exact LeO.refl _)
      | (with_reducible exact LeO.none _)
      | (with_reducible refine LeO.ite ?_ ?_)
      | (with_reducible refine LeO.bind ?_ (fun _ => ?_))
      | exact impl_FullPile.mono _ _ _ _
      | exact impl_NegateDivisor.mono _ _
      | exact impl_plus.mono _ _ _
      | exact impl_reduce.mono _ _ _ _ _
      | exact LeO.none _
      | refine LeO.ite ?_ ?_
      | refine LeO.bind ?_ (fun _ => ?_)
end Go.Proofs.Ytjecgolakaiddaa.P
end

section
namespace Go.Proofs.Ytjecgolakaiddaa.P
open Go.RowKit Go.Proofs.YtjecgolakaiddaaW.PrintWords Go.Proofs.YtjecgolakaiddaaW.PrintLast Go.Proofs.YtjecgolakaiddaaW.PrintMore
attribute [local go_sem] max2_int min2_int max_two min_two max_three min_three max_four min_four
set_option linter.unusedVariables false
set_option linter.unusedSimpArgs false
def impl_ReducedOf.f (k : Nat) (a0_0 : Int) (l0_1 : List (S70)) (l1 : List Int) (a2 : Int) : Option (List Int × Bool) := (impl_DivisorOk.f k a0_0 l0_1 l1).bind fun t102 => (if t102 = true then ((impl_isVertex.f a0_0 l0_1 a2).bind fun t103 => (if t103 = true then ((impl_reduce.f k a0_0 l0_1 l1 a2).bind fun bt104 => (some (bt104.1, true))) else (some (([] : List Int), false)))) else (some (([] : List Int), false)))
theorem impl_ReducedOf.mono : ∀ a0 a1 a2 a3 k, LeO (impl_ReducedOf.f k a0 a1 a2 a3) (impl_ReducedOf.f (k + 1) a0 a1 a2 a3) := by
  intro a0 a1 a2 a3 k; unfold impl_ReducedOf.f
  repeat' first
      | (with_reducible exact impl_DivisorOk.mono _ _ _ _)
      | (with_reducible exact impl_reduce.mono _ _ _ _ _)
      | (with_reducible exact LeO.refl _)
      | (with_reducible exact LeO.none _)
      | (with_reducible refine LeO.ite ?_ ?_)
      | (with_reducible refine LeO.bind ?_ (fun _ => ?_))
      | exact impl_DivisorOk.mono _ _ _ _
      | exact impl_reduce.mono _ _ _ _ _
      | exact LeO.none _
      | refine LeO.ite ?_ ?_
      | refine LeO.bind ?_ (fun _ => ?_)
end Go.Proofs.Ytjecgolakaiddaa.P
end

section
namespace Go.Proofs.Ytjecgolakaiddaa.P
open Go.RowKit Go.Proofs.YtjecgolakaiddaaW.PrintWords Go.Proofs.YtjecgolakaiddaaW.PrintLast Go.Proofs.YtjecgolakaiddaaW.PrintMore
attribute [local go_sem] max2_int min2_int max_two min_two max_three min_three max_four min_four
set_option linter.unusedVariables false
set_option linter.unusedSimpArgs false
def impl_RepresentativeOf.f (k : Nat) (a0_0 : Int) (l0_1 : List (S70)) (l1 : List Int) : Option (List Int × Bool) := (impl_ReducedOf.f k a0_0 l0_1 l1 0).bind fun bt102 => (some (bt102.1, bt102.2))
theorem impl_RepresentativeOf.mono : ∀ a0 a1 a2 k, LeO (impl_RepresentativeOf.f k a0 a1 a2) (impl_RepresentativeOf.f (k + 1) a0 a1 a2) := by
  intro a0 a1 a2 k; unfold impl_RepresentativeOf.f
  repeat' first
      | (with_reducible exact impl_ReducedOf.mono _ _ _ _ _)
      | (with_reducible exact LeO.refl _)
      | (with_reducible exact LeO.none _)
      | (with_reducible refine LeO.ite ?_ ?_)
      | (with_reducible refine LeO.bind ?_ (fun _ => ?_))
      | exact impl_ReducedOf.mono _ _ _ _ _
      | exact LeO.none _
      | refine LeO.ite ?_ ?_
      | refine LeO.bind ?_ (fun _ => ?_)
end Go.Proofs.Ytjecgolakaiddaa.P
end

section
namespace Go.Proofs.Ytjecgolakaiddaa.Cf
set_option linter.unusedVariables false
set_option linter.unusedSimpArgs false
open Go.RowKit Go.Proofs.YtjecgolakaiddaaW.PrintWords Go.Proofs.Ytjecgolakaiddaa.P
theorem dOk_all {n : Int} {es : List E} {d : List Int} (h : dOk n es d = true) : ∃ m : Nat, n = m ∧ (∀ q : Int, 0 ≤ q → q < n → Gr m es q) ∧ 1 ≤ m ∧ m ≤ 6 ∧ d.length = m ∧ Bd d 60 ∧ Mod d := by
  obtain ⟨h1, h2, h3⟩ := dOk_iff.1 h
  obtain ⟨m, rfl⟩ := Int.eq_ofNat_of_zero_le (a := n) (by omega)
  have hg := h1.1
  unfold EsOk at hg
  exact ⟨m, rfl, fun q q0 q1 => Gr.of h1 ⟨q0, q1⟩, by omega, by omega, by omega, Bd.of60 h3, fun x hx => by have := h3 x hx; omega⟩
end Go.Proofs.Ytjecgolakaiddaa.Cf
end

section
namespace Go.Proofs.Ytjecgolakaiddaa.P
open Go.RowKit Go.Proofs.YtjecgolakaiddaaW.PrintWords Go.Proofs.YtjecgolakaiddaaW.PrintLast Go.Proofs.YtjecgolakaiddaaW.PrintMore
attribute [local go_sem] max2_int min2_int max_two min_two max_three min_three max_four min_four
set_option linter.unusedVariables false
set_option linter.unusedSimpArgs false
def spec_IsReduced.f (k : Nat) (a0_0 : Int) (l0_1 : List (S70)) (l1 : List Int) (a2 : Int) : Option (Bool) := (spec_BurnFrom.f k a0_0 l0_1 l1 a2).bind fun bt102 => (if bt102.2 = true then ((spec_l05Debt.f k l1 a2).bind fun t106 => (if t106 = true then (some false) else (some ((bt102.1.length : Int) == a0_0)))) else (some false))
theorem spec_IsReduced.mono : ∀ a0 a1 a2 a3 k, LeO (spec_IsReduced.f k a0 a1 a2 a3) (spec_IsReduced.f (k + 1) a0 a1 a2 a3) := by
  intro a0 a1 a2 a3 k; unfold spec_IsReduced.f
  repeat' first
      | (with_reducible exact spec_BurnFrom.mono _ _ _ _ _)
      | (with_reducible exact spec_l05Debt.mono _ _ _)
      | (with_reducible exact LeO.refl _)
      | (with_reducible exact LeO.none _)
      | (with_reducible refine LeO.ite ?_ ?_)
      | (with_reducible refine LeO.bind ?_ (fun _ => ?_))
      | exact spec_BurnFrom.mono _ _ _ _ _
      | exact spec_l05Debt.mono _ _ _
      | exact LeO.none _
      | refine LeO.ite ?_ ?_
      | refine LeO.bind ?_ (fun _ => ?_)
end Go.Proofs.Ytjecgolakaiddaa.P
end

section
namespace Go.Proofs.Ytjecgolakaiddaa.P
open Go.RowKit Go.Proofs.YtjecgolakaiddaaW.PrintWords Go.Proofs.YtjecgolakaiddaaW.PrintLast Go.Proofs.YtjecgolakaiddaaW.PrintMore
attribute [local go_sem] max2_int min2_int max_two min_two max_three min_three max_four min_four
set_option linter.unusedVariables false
set_option linter.unusedSimpArgs false
def impl_IsReduced.f (k : Nat) (a0_0 : Int) (l0_1 : List (S70)) (l1 : List Int) (a2 : Int) : Option (Bool) := (impl_BurnFrom.f k a0_0 l0_1 l1 a2).bind fun bt102 => (if bt102.2 = true then ((impl_inDebt.f k l1 a2).bind fun t106 => (if t106 < 0 then (some ((bt102.1.length : Int) == a0_0)) else (some false))) else (some false))
theorem impl_IsReduced.mono : ∀ a0 a1 a2 a3 k, LeO (impl_IsReduced.f k a0 a1 a2 a3) (impl_IsReduced.f (k + 1) a0 a1 a2 a3) := by
  intro a0 a1 a2 a3 k; unfold impl_IsReduced.f
  repeat' first
      | (with_reducible exact impl_BurnFrom.mono _ _ _ _ _)
      | (with_reducible exact impl_inDebt.mono _ _ _)
      | (with_reducible exact LeO.refl _)
      | (with_reducible exact LeO.none _)
      | (with_reducible refine LeO.ite ?_ ?_)
      | (with_reducible refine LeO.bind ?_ (fun _ => ?_))
      | exact impl_BurnFrom.mono _ _ _ _ _
      | exact impl_inDebt.mono _ _ _
      | exact LeO.none _
      | refine LeO.ite ?_ ?_
      | refine LeO.bind ?_ (fun _ => ?_)
end Go.Proofs.Ytjecgolakaiddaa.P
end

section
namespace Go.Proofs.Ytjecgolakaiddaa.P
open Go.RowKit Go.Proofs.YtjecgolakaiddaaW.PrintWords Go.Proofs.YtjecgolakaiddaaW.PrintLast Go.Proofs.YtjecgolakaiddaaW.PrintMore
attribute [local go_sem] max2_int min2_int max_two min_two max_three min_three max_four min_four
set_option linter.unusedVariables false
set_option linter.unusedSimpArgs false
def spec_IsParking.f (k : Nat) (a0_0 : Int) (l0_1 : List (S70)) (l1 : List Int) (a2 : Int) : Option (Bool) := (spec_IsReduced.f k a0_0 l0_1 l1 a2).bind fun t102 => (if t102 = true then (if 0 ≤ a2 then (if a2 < (l1.length : Int) then (some ((rd l1 a2) == (-1))) else (none)) else (none)) else (some false))
theorem spec_IsParking.mono : ∀ a0 a1 a2 a3 k, LeO (spec_IsParking.f k a0 a1 a2 a3) (spec_IsParking.f (k + 1) a0 a1 a2 a3) := by
  intro a0 a1 a2 a3 k; unfold spec_IsParking.f
  repeat' first
      | (with_reducible exact spec_IsReduced.mono _ _ _ _ _)
      | (with_reducible exact LeO.refl _)
      | (with_reducible exact LeO.none _)
      | (with_reducible refine LeO.ite ?_ ?_)
      | (with_reducible refine LeO.bind ?_ (fun _ => ?_))
      | exact spec_IsReduced.mono _ _ _ _ _
      | exact LeO.none _
      | refine LeO.ite ?_ ?_
      | refine LeO.bind ?_ (fun _ => ?_)
end Go.Proofs.Ytjecgolakaiddaa.P
end

section
namespace Go.Proofs.Ytjecgolakaiddaa.P
open Go.RowKit Go.Proofs.YtjecgolakaiddaaW.PrintWords Go.Proofs.YtjecgolakaiddaaW.PrintLast Go.Proofs.YtjecgolakaiddaaW.PrintMore
attribute [local go_sem] max2_int min2_int max_two min_two max_three min_three max_four min_four
set_option linter.unusedVariables false
set_option linter.unusedSimpArgs false
def impl_IsParking.f (k : Nat) (a0_0 : Int) (l0_1 : List (S70)) (l1 : List Int) (a2 : Int) : Option (Bool) := (impl_IsReduced.f k a0_0 l0_1 l1 a2).bind fun t102 => (if t102 = true then (if 0 ≤ a2 then (if a2 < (l1.length : Int) then (some ((rd l1 a2) == (-1))) else (none)) else (none)) else (some false))
theorem impl_IsParking.mono : ∀ a0 a1 a2 a3 k, LeO (impl_IsParking.f k a0 a1 a2 a3) (impl_IsParking.f (k + 1) a0 a1 a2 a3) := by
  intro a0 a1 a2 a3 k; unfold impl_IsParking.f
  repeat' first
      | (with_reducible exact impl_IsReduced.mono _ _ _ _ _)
      | (with_reducible exact LeO.refl _)
      | (with_reducible exact LeO.none _)
      | (with_reducible refine LeO.ite ?_ ?_)
      | (with_reducible refine LeO.bind ?_ (fun _ => ?_))
      | exact impl_IsReduced.mono _ _ _ _ _
      | exact LeO.none _
      | refine LeO.ite ?_ ?_
      | refine LeO.bind ?_ (fun _ => ?_)
end Go.Proofs.Ytjecgolakaiddaa.P
end

section
namespace Go.Proofs.Ytjecgolakaiddaa.P
open Go.RowKit Go.Proofs.YtjecgolakaiddaaW.PrintWords Go.Proofs.YtjecgolakaiddaaW.PrintLast Go.Proofs.YtjecgolakaiddaaW.PrintMore
attribute [local go_sem] max2_int min2_int max_two min_two max_three min_three max_four min_four
set_option linter.unusedVariables false
set_option linter.unusedSimpArgs false
def spec_PileOfParking.f (k : Nat) (a0_0 : Int) (l0_1 : List (S70)) (l1 : List Int) (a2 : Int) : Option (List Int × Bool) := (spec_IsParking.f k a0_0 l0_1 l1 a2).bind fun t102 => (if t102 = true then ((spec_l11Full.f k a0_0 l0_1 l1 a2).bind fun t103 => (some (t103, true))) else (some (([] : List Int), false)))
theorem spec_PileOfParking.mono : ∀ a0 a1 a2 a3 k, LeO (spec_PileOfParking.f k a0 a1 a2 a3) (spec_PileOfParking.f (k + 1) a0 a1 a2 a3) := by
  intro a0 a1 a2 a3 k; unfold spec_PileOfParking.f
  repeat' first
      | (with_reducible exact spec_IsParking.mono _ _ _ _ _)
      | (with_reducible exact spec_l11Full.mono _ _ _ _ _)
      | (with_reducible exact LeO.refl _)
      | (with_reducible exact LeO.none _)
      | (with_reducible refine LeO.ite ?_ ?_)
      | (with_reducible refine LeO.bind ?_ (fun _ => ?_))
      | exact spec_IsParking.mono _ _ _ _ _
      | exact spec_l11Full.mono _ _ _ _ _
      | exact LeO.none _
      | refine LeO.ite ?_ ?_
      | refine LeO.bind ?_ (fun _ => ?_)
end Go.Proofs.Ytjecgolakaiddaa.P
end

section
namespace Go.Proofs.Ytjecgolakaiddaa.P
open Go.RowKit Go.Proofs.YtjecgolakaiddaaW.PrintWords Go.Proofs.YtjecgolakaiddaaW.PrintLast Go.Proofs.YtjecgolakaiddaaW.PrintMore
attribute [local go_sem] max2_int min2_int max_two min_two max_three min_three max_four min_four
set_option linter.unusedVariables false
set_option linter.unusedSimpArgs false
def impl_PileOfParking.f (k : Nat) (a0_0 : Int) (l0_1 : List (S70)) (l1 : List Int) (a2 : Int) : Option (List Int × Bool) := (impl_IsParking.f k a0_0 l0_1 l1 a2).bind fun t102 => (if t102 = true then ((impl_FullPile.f k a0_0 l0_1 a2).bind fun t103 => ((impl_NegateDivisor.f k l1).bind fun t106 => ((impl_plus.f k t103 t106).bind fun t109 => (if 0 ≤ a2 then (if a2 < (t109.length : Int) then (some ((t109.set (a2 : Int).toNat 0), true)) else (none)) else (none))))) else (some (([] : List Int), false)))
theorem impl_PileOfParking.mono : ∀ a0 a1 a2 a3 k, LeO (impl_PileOfParking.f k a0 a1 a2 a3) (impl_PileOfParking.f (k + 1) a0 a1 a2 a3) := by
  intro a0 a1 a2 a3 k; unfold impl_PileOfParking.f
  repeat' first
      | (with_reducible exact impl_FullPile.mono _ _ _ _)
      | (with_reducible exact impl_IsParking.mono _ _ _ _ _)
      | (with_reducible exact impl_NegateDivisor.mono _ _)
      | (with_reducible exact impl_plus.mono _ _ _)
      | (with_reducible exact LeO.refl _)
      | (with_reducible exact LeO.none _)
      | (with_reducible refine LeO.ite ?_ ?_)
      | (with_reducible refine LeO.bind ?_ (fun _ => ?_))
      | exact impl_FullPile.mono _ _ _ _
      | exact impl_IsParking.mono _ _ _ _ _
      | exact impl_NegateDivisor.mono _ _
      | exact impl_plus.mono _ _ _
      | exact LeO.none _
      | refine LeO.ite ?_ ?_
      | refine LeO.bind ?_ (fun _ => ?_)
end Go.Proofs.Ytjecgolakaiddaa.P
end

section
namespace Go.Proofs.Ytjecgolakaiddaa.P
open Go.RowKit Go.Proofs.YtjecgolakaiddaaW.PrintWords Go.Proofs.YtjecgolakaiddaaW.PrintLast Go.Proofs.YtjecgolakaiddaaW.PrintMore
attribute [local go_sem] max2_int min2_int max_two min_two max_three min_three max_four min_four
set_option linter.unusedVariables false
set_option linter.unusedSimpArgs false
def spec_ParkingOfPile.f (k : Nat) (a0_0 : Int) (l0_1 : List (S70)) (l1 : List Int) (a2 : Int) : Option (List Int × Bool) := (spec_IsRecurrent.f k a0_0 l0_1 l1 a2).bind fun t102 => (if t102 = true then ((spec_FullPile.f k a0_0 l0_1 a2).bind fun t103 => ((spec_l07Minus.f k t103 l1).bind fun t106 => (if 0 ≤ a2 then (if a2 < (t106.length : Int) then (some ((t106.set (a2 : Int).toNat (-1)), true)) else (none)) else (none)))) else (some (([] : List Int), false)))
theorem spec_ParkingOfPile.mono : ∀ a0 a1 a2 a3 k, LeO (spec_ParkingOfPile.f k a0 a1 a2 a3) (spec_ParkingOfPile.f (k + 1) a0 a1 a2 a3) := by
  intro a0 a1 a2 a3 k; unfold spec_ParkingOfPile.f
  repeat' first
      | (with_reducible exact spec_FullPile.mono _ _ _ _)
      | (with_reducible exact spec_IsRecurrent.mono _ _ _ _ _)
      | (with_reducible exact spec_l07Minus.mono _ _ _)
      | (with_reducible exact LeO.refl _)
      | (with_reducible exact LeO.none _)
      | (with_reducible refine LeO.ite ?_ ?_)
      | (with_reducible refine LeO.bind ?_ (fun _ => ?_))
      | exact spec_FullPile.mono _ _ _ _
      | exact spec_IsRecurrent.mono _ _ _ _ _
      | exact spec_l07Minus.mono _ _ _
      | exact LeO.none _
      | refine LeO.ite ?_ ?_
      | refine LeO.bind ?_ (fun _ => ?_)
end Go.Proofs.Ytjecgolakaiddaa.P
end

section
namespace Go.Proofs.Ytjecgolakaiddaa.P
open Go.RowKit Go.Proofs.YtjecgolakaiddaaW.PrintWords Go.Proofs.YtjecgolakaiddaaW.PrintLast Go.Proofs.YtjecgolakaiddaaW.PrintMore
attribute [local go_sem] max2_int min2_int max_two min_two max_three min_three max_four min_four
set_option linter.unusedVariables false
set_option linter.unusedSimpArgs false
def impl_ParkingOfPile.f (k : Nat) (a0_0 : Int) (l0_1 : List (S70)) (l1 : List Int) (a2 : Int) : Option (List Int × Bool) := (impl_IsRecurrent.f k a0_0 l0_1 l1 a2).bind fun t102 => (if t102 = true then ((impl_FullPile.f k a0_0 l0_1 a2).bind fun t103 => ((impl_NegateDivisor.f k l1).bind fun t106 => ((impl_plus.f k t103 t106).bind fun t109 => (if 0 ≤ a2 then (if a2 < (t109.length : Int) then (some ((t109.set (a2 : Int).toNat (-1)), true)) else (none)) else (none))))) else (some (([] : List Int), false)))
theorem impl_ParkingOfPile.mono : ∀ a0 a1 a2 a3 k, LeO (impl_ParkingOfPile.f k a0 a1 a2 a3) (impl_ParkingOfPile.f (k + 1) a0 a1 a2 a3) := by
  intro a0 a1 a2 a3 k; unfold impl_ParkingOfPile.f
  repeat' first
      | (with_reducible exact impl_FullPile.mono _ _ _ _)
      | (with_reducible exact impl_IsRecurrent.mono _ _ _ _ _)
      | (with_reducible exact impl_NegateDivisor.mono _ _)
      | (with_reducible exact impl_plus.mono _ _ _)
      | (with_reducible exact LeO.refl _)
      | (with_reducible exact LeO.none _)
      | (with_reducible refine LeO.ite ?_ ?_)
      | (with_reducible refine LeO.bind ?_ (fun _ => ?_))
      | exact impl_FullPile.mono _ _ _ _
      | exact impl_IsRecurrent.mono _ _ _ _ _
      | exact impl_NegateDivisor.mono _ _
      | exact impl_plus.mono _ _ _
      | exact LeO.none _
      | refine LeO.ite ?_ ?_
      | refine LeO.bind ?_ (fun _ => ?_)
end Go.Proofs.Ytjecgolakaiddaa.P
end

section
namespace Go.Proofs.Ytjecgolakaiddaa.Cf
set_option linter.unusedVariables false
set_option linter.unusedSimpArgs false
open Go.RowKit Go.Proofs.YtjecgolakaiddaaW.PrintWords Go.Proofs.Ytjecgolakaiddaa.P
def bOk (n : Int) (es : List E) (d : List Int) (q : Int) : Bool := dOk n es d && decide (0 ≤ q ∧ q < n)
def bfO (n : Int) (es : List E) (d : List Int) (q : Int) : List Int × Bool := if bOk n es d q = true then (burnF n.toNat es (rd d) q, true) else ([], false)
theorem bOk_all {n : Int} {es : List E} {d : List Int} {q : Int} (h : bOk n es d q = true) : ∃ m : Nat, n = m ∧ Gr m es q ∧ GOk (m : Int) es ∧ d.length = m ∧ Bd d 60 := by
  unfold bOk at h
  rw [Bool.and_eq_true, decide_eq_true_eq] at h
  have hg := (dOk_iff.1 h.1).1
  obtain ⟨m, rfl, g, _, _, hl, hb, _⟩ := dOk_all h.1
  exact ⟨m, rfl, g q h.2.1 h.2.2, hg, hl, hb⟩
theorem bfO_yes {m : Nat} {es : List E} {d : List Int} {q : Int} (h : bOk m es d q = true) : bfO m es d q = (burnF m es (rd d) q, true) := by
  unfold bfO
  rw [if_pos h]
  rfl
theorem bfO_snd {n : Int} {es : List E} {d : List Int} {q : Int} : (bfO n es d q).2 = bOk n es d q := by
  unfold bfO
  cases bOk n es d q <;> rfl
theorem specBF (n : Int) (es : List E) (d : List Int) (q : Int) (hl : d.length ≤ 1048576) : Ep (fun k => spec_BurnFrom.f k n es d q) (· = bfO n es d q) := by
  simp only [spec_BurnFrom.f, spec_l05Ok.f, bfO]
  refine Ep.bind (P := (· = bOk n es d q)) ?_ ?_
  · unfold bOk
    refine Ep.bind (specDiv n es d hl) ?_
    rintro _ rfl
    refine Ep.ite (fun h => ?_) (fun h => Ep.now ?_)
    · obtain ⟨m, rfl, _, h1, h6, _⟩ := dOk_all h
      rw [wrap_id (x := (m : Int) - 1) (by omega) (by omega), h]
      refine Ep.bind0 (l01In_eq _ _ _) (Ep.now ?_)
      have hq : (0 ≤ q ∧ q ≤ (m : Int) - 1) ↔ (0 ≤ q ∧ q < (m : Int)) := by omega
      simp only [hq, Bool.true_and]
    · have : dOk n es d = false := by simpa using h
      rw [this]
      rfl
  · rintro _ rfl
    refine Ep.ite (fun h => ?_) (fun h => Ep.now (by rw [if_neg h]))
    obtain ⟨m, rfl, g, _, hdl, _⟩ := bOk_all h
    refine Ep.bind (specBurn g d hdl) ?_
    rintro _ rfl
    exact Ep.now (by rw [if_pos h]; rfl)
theorem implBF (n : Int) (es : List E) (d : List Int) (q : Int) (hn : Wf .i64 n) (hl : d.length ≤ 1048576) : Ep (fun k => impl_BurnFrom.f k n es d q) (· = bfO n es d q) := by
  simp only [impl_BurnFrom.f, bfO]
  refine Ep.bind (implDiv n es d hl) ?_
  rintro _ rfl
  refine Ep.ite (fun h => ?_) (fun h => Ep.now ?_)
  · refine Ep.bind0 (isVertex_eq n es q hn) ?_
    have hgo := gOk_iff.2 (dOk_iff.1 h).1
    have e : (gOk n es && decide (0 ≤ q ∧ q < n)) = bOk n es d q := by unfold bOk; rw [hgo, h]
    rw [e]
    refine Ep.ite (fun h2 => ?_) (fun h2 => Ep.now (by rw [if_neg h2]))
    obtain ⟨m, rfl, g, _, hdl, _⟩ := bOk_all h2
    refine Ep.bind (implBurn g d hdl) ?_
    rintro _ rfl
    exact Ep.now (by rw [if_pos h2]; rfl)
  · have : bOk n es d q = false := by
      unfold bOk
      have : dOk n es d = false := by simpa using h
      rw [this]
      rfl
    rw [this]
    rfl
def burntL (es : List E) (b : List Int) : List Int := es.map fun e => if idxF e.f0 b 0 < idxF e.f1 b 0 then 0 else 1
theorem burntL_take {es : List E} {b : List Int} {i : Nat} (h : i < es.length) : (burntL es b).take (i + 1) = (burntL es b).take i ++ [if idxF es[i].f0 b 0 < idxF es[i].f1 b 0 then 0 else 1] := by
  rw [List.take_succ_eq_append_getElem (by simpa [burntL] using h)]
  simp [burntL]
theorem place_l0 (l : List Int) (x : Int) (hl : l.length ≤ 1048576) : ∀ (d i : Nat), i + d = l.length → Ep (fun k => spec_l13Place.l0 k x l (l.length : Int) (i : Int)) (· = idxF x (l.drop i) i) := by
  intro d
  induction d with
  | zero =>
    intro i hi
    refine Ep.up ?_
    simp only [spec_l13Place.l0]
    refine Ep.neg (by omega) (Ep.now ?_)
    rw [List.drop_of_length_le (by omega)]
    rfl
  | succ d ih =>
    intro i hi
    have hlt : i < l.length := by omega
    refine Ep.up ?_
    simp only [spec_l13Place.l0]
    refine Ep.pos (by omega) (Ep.pos (by omega) (Ep.pos (by omega) ?_))
    rw [rd_get hlt, wrap_succ (by omega), idxF_drop hlt]
    refine Ep.ite (fun h => Ep.now ?_) (fun h => ?_)
    · rw [if_pos h.symm]
    · rw [if_neg (fun y => h y.symm)]
      exact ih (i + 1) (by omega)
theorem place_ok (l : List Int) (x : Int) (hl : l.length ≤ 1048576) : Ep (fun k => spec_l13Place.f k l x) (· = idxF x l 0) := by
  have := place_l0 l x hl l.length 0 (by omega)
  simp only [spec_l13Place.f]
  exact this
theorem specBurnt_l0 (es : List E) (hel : es.length ≤ 1048576) (b : List Int) (hb : b.length ≤ 1048576) : ∀ (d i : Nat), i + d = es.length → Ep (fun k => spec_l13Burnt.l0 k b ((burntL es b).take i) es (es.length : Int) (i : Int)) (· = burntL es b) := by
  intro d
  have hL : (burntL es b).length = es.length := by simp [burntL]
  induction d with
  | zero =>
    intro i hi
    refine Ep.up ?_
    simp only [spec_l13Burnt.l0]
    refine Ep.neg (by omega) (Ep.now ?_)
    rw [List.take_of_length_le (by omega)]
  | succ d ih =>
    intro i hi
    have hlt : i < es.length := by omega
    have hlen : ((burntL es b).take i).length < 17592186044416 := by rw [List.length_take]; omega
    have ih' := ih (i + 1) (by omega)
    rw [burntL_take hlt] at ih'
    refine Ep.up ?_
    simp only [spec_l13Burnt.l0]
    rw [wrap_succ (by omega)]
    refine Ep.pos (by omega) (Ep.pos (by omega) (Ep.pos (by omega) ?_))
    rw [rdE_get hlt]
    refine Ep.bind (place_ok b _ hb) ?_
    rintro _ rfl
    refine Ep.bind (place_ok b _ hb) ?_
    rintro _ rfl
    refine Ep.ite (fun h => Ep.pos hlen ?_) (fun h => Ep.pos hlen ?_)
    · rw [if_pos h] at ih'
      exact ih'
    · rw [if_neg h] at ih'
      exact ih'
theorem implBurnt_l0 (es : List E) (hel : es.length ≤ 1048576) (b : List Int) (hb : b.length ≤ 1048576) : ∀ (d i : Nat), i + d = es.length → Ep (fun k => impl_burnt.l0 k b ((burntL es b).take i) es (es.length : Int) (i : Int)) (· = burntL es b) := by
  intro d
  have hL : (burntL es b).length = es.length := by simp [burntL]
  induction d with
  | zero =>
    intro i hi
    refine Ep.up ?_
    simp only [impl_burnt.l0]
    refine Ep.neg (by omega) (Ep.now ?_)
    rw [List.take_of_length_le (by omega)]
  | succ d ih =>
    intro i hi
    have hlt : i < es.length := by omega
    have hlen : ((burntL es b).take i).length < 17592186044416 := by rw [List.length_take]; omega
    have ih' := ih (i + 1) (by omega)
    rw [burntL_take hlt] at ih'
    refine Ep.up ?_
    simp only [impl_burnt.l0]
    rw [wrap_succ (by omega)]
    refine Ep.pos (by omega) (Ep.pos (by omega) (Ep.pos (by omega) ?_))
    rw [rdE_get hlt]
    refine Ep.bind (index_ok b _ hb) ?_
    rintro _ rfl
    refine Ep.bind (index_ok b _ hb) ?_
    rintro _ rfl
    refine Ep.ite (fun h => Ep.pos hlen ?_) (fun h => Ep.pos hlen ?_)
    · rw [if_pos h] at ih'
      exact ih'
    · rw [if_neg h] at ih'
      exact ih'
theorem specBurnt (n : Int) (es : List E) (hel : es.length ≤ 1048576) (b : List Int) (hb : b.length ≤ 1048576) : Ep (fun k => spec_l13Burnt.f k n es b) (· = burntL es b) := by
  simp only [spec_l13Burnt.f]
  have := specBurnt_l0 es hel b hb es.length 0 (by omega)
  simpa using this
theorem implBurnt (n : Int) (es : List E) (hel : es.length ≤ 1048576) (b : List Int) (hb : b.length ≤ 1048576) : Ep (fun k => impl_burnt.f k n es b) (· = burntL es b) := by
  simp only [impl_burnt.f]
  have := implBurnt_l0 es hel b hb es.length 0 (by omega)
  simpa using this
def obbO (n : Int) (es : List E) (d : List Int) (q : Int) : List Int × Bool := if bOk n es d q = true ∧ ((bfO n es d q).1.length : Int) = n then (burntL es (bfO n es d q).1, true) else ([], false)
theorem obbO_len (n : Int) (es : List E) (d : List Int) (q : Int) : (obbO n es d q).1.length ≤ 12 := by
  unfold obbO
  split
  · rename_i h
    obtain ⟨m, rfl, g, _⟩ := bOk_all h.1
    simpa [burntL] using g.hel
  · simp
theorem bfO_len {n : Int} {es : List E} {d : List Int} {q : Int} (h : bOk n es d q = true) : ((bfO n es d q).1.length : Int) ≤ n ∧ n ≤ 6 := by
  obtain ⟨m, rfl, g, _⟩ := bOk_all h
  rw [bfO_yes h]
  have := (burnF_ok (es := es) (d := rd d) g.hq).1.len g.hq
  have := g.n6
  simp only
  omega
theorem specObb (n : Int) (es : List E) (d : List Int) (q : Int) (hel : es.length ≤ 1048576) (hl : d.length ≤ 1048576) : Ep (fun k => spec_OrientByBurning.f k n es d q) (· = obbO n es d q) := by
  simp only [spec_OrientByBurning.f, obbO]
  refine Ep.bind (specBF n es d q hl) ?_
  rintro _ rfl
  rw [bfO_snd]
  refine Ep.ite (fun h => ?_) (fun h => Ep.now (by rw [if_neg (fun x => h x.1)]))
  have hlen := bfO_len h
  refine Ep.ite (fun h2 => ?_) (fun h2 => Ep.now (by rw [if_neg (fun x => h2 x.2)]))
  refine Ep.bind (specBurnt n es hel _ (by omega)) ?_
  rintro _ rfl
  exact Ep.now (by rw [if_pos ⟨h, h2⟩])
theorem implObb (n : Int) (es : List E) (d : List Int) (q : Int) (hn : Wf .i64 n) (hel : es.length ≤ 1048576) (hl : d.length ≤ 1048576) : Ep (fun k => impl_OrientByBurning.f k n es d q) (· = obbO n es d q) := by
  simp only [impl_OrientByBurning.f, obbO]
  refine Ep.bind (implBF n es d q hn hl) ?_
  rintro _ rfl
  rw [bfO_snd]
  refine Ep.ite (fun h => ?_) (fun h => Ep.now (by rw [if_neg (fun x => h x.1)]))
  have hlen := bfO_len h
  refine Ep.ite (fun h2 => Ep.now (by rw [if_neg (fun x => by have := x.2; omega)])) (fun h2 => ?_)
  refine Ep.bind (implBurnt n es hel _ (by omega)) ?_
  rintro _ rfl
  exact Ep.now (by rw [if_pos ⟨h, by omega⟩])
end Go.Proofs.Ytjecgolakaiddaa.Cf
end

section
namespace Go.Proofs.Ytjecgolakaiddaa.Cf
set_option linter.unusedVariables false
set_option linter.unusedSimpArgs false
open Go.RowKit Go.Proofs.YtjecgolakaiddaaW.PrintWords Go.Proofs.Ytjecgolakaiddaa.P
def EWf (e : E) : Prop := Wf .i64 e.f0 ∧ Wf .i64 e.f1
theorem rdLE_get {es : List E} {i : Nat} (h : i < es.length) : rd_T96 es (i : Int) = es[i] := by simp [rd_T96, List.getD, h]
theorem szGraph_ok (n : Int) (es : List E) (a : Int) (ha : 0 ≤ a ∧ a ≤ 1048576) (hl : es.length ≤ 9223372036854775807) : ∃ t, laws_szGraph.f n es a = some t ∧ t ≤ 1048576 ∧ (¬ t < 0 → es.length ≤ 1048576) := by
  unfold laws_szGraph.f laws_szEdgeS.f
  rw [wrap_id (by omega) (by omega)]
  by_cases h : a - (es.length : Int) < 0
  · refine ⟨-1, ?_, by omega, by omega⟩
    rw [if_pos h]
    simp
  · refine ⟨a - es.length, ?_, by omega, by omega⟩
    rw [if_neg h]
    simp only [Option.bind_some]
    rw [if_neg h]
theorem toEdgeS_l0 (x0 : List E) (h : x0.length ≤ 1048576) : ∀ (d i : Nat) (x3 : List E), i + d = x0.length → x3.length = x0.length → (∀ j, j < i → x3[j]? = x0[j]?) → Ep (fun k => laws_toEdgeS.l0 k x0 x3 (i : Int)) (· = x0) := by
  intro d
  induction d with
  | zero =>
    intro i x3 hi hl hx
    refine Ep.up ?_
    simp only [laws_toEdgeS.l0]
    refine Ep.neg (by omega) (Ep.now ?_)
    apply List.ext_getElem?
    intro j
    by_cases hj : j < i
    · exact hx j hj
    · rw [List.getElem?_eq_none (by omega), List.getElem?_eq_none (by omega)]
  | succ d ih =>
    intro i x3 hi hl hx
    have hlt : i < x0.length := by omega
    refine Ep.up ?_
    simp only [laws_toEdgeS.l0]
    refine Ep.pos (by omega) (Ep.pos (by omega) ?_)
    rw [rdLE_get hlt, wrap_succ (by omega)]
    refine Ep.bind0 rfl (Ep.pos (by omega) ?_)
    refine ih (i + 1) _ (by omega) (by simpa using hl) ?_
    intro j hj
    rw [Int.toNat_natCast]
    by_cases e : i = j
    · subst e
      rw [List.getElem?_set_self (by omega), List.getElem?_eq_getElem (by omega)]
    · rw [List.getElem?_set_ne e]
      exact hx j (by omega)
theorem toGraph_ok (n : Int) (es : List E) (h : es.length ≤ 1048576) : Ep (fun k => laws_toGraph.f k n es) (· = (n, es)) := by
  simp only [laws_toGraph.f, laws_toEdgeS.f]
  refine Ep.bind (P := (· = es)) (Ep.pos (by omega) (Ep.pos (by simp; omega) ?_)) ?_
  · exact toEdgeS_l0 es h es.length 0 _ (by omega) (by simp) (fun j hj => by omega)
  · rintro _ rfl
    exact Ep.now rfl
theorem eqEdge_ok (a b : Int) : laws_eqEdge.f a b a b = some true := by simp [laws_eqEdge.f]
theorem eqEdgeS_l0 (x : List E) (h : x.length ≤ 1048576) : ∀ (d i : Nat), i + d = x.length → Ep (fun k => laws_eqEdgeS.l0 k x x (i : Int)) (· = true) := by
  intro d
  induction d with
  | zero =>
    intro i hi
    refine Ep.up ?_
    simp only [laws_eqEdgeS.l0]
    exact Ep.neg (by omega) (Ep.now rfl)
  | succ d ih =>
    intro i hi
    refine Ep.up ?_
    simp only [laws_eqEdgeS.l0]
    refine Ep.pos (by omega) (Ep.pos (by omega) (Ep.pos (by omega) ?_))
    rw [wrap_succ (by omega)]
    exact Ep.bind0 (eqEdge_ok _ _) (Ep.pos rfl (ih (i + 1) (by omega)))
theorem eqGraph_ok (n : Int) (es : List E) (h : es.length ≤ 1048576) : Ep (fun k => laws_eqGraph.f k n es n es) (· = true) := by
  simp only [laws_eqGraph.f]
  refine Ep.pos trivial (Ep.bind (P := (· = true)) ?_ ?_)
  · simp only [laws_eqEdgeS.f]
    exact Ep.pos trivial (eqEdgeS_l0 es h es.length 0 (by omega))
  · rintro _ rfl
    exact Ep.pos rfl (Ep.now rfl)
theorem markEdgeS_l0 (n : Nat) (hn : n ≤ 1048576) {B : Int} (hB : B ≤ 1099511627776) : ∀ (d i : Nat) (x : List E) (a : Int), i + d = n → x.length = n → 0 ≤ a → a + 2 * d ≤ B → Ep (fun k => laws_markEdgeS.l0 k x a (i : Int)) (fun r => 0 ≤ r.1 ∧ r.1 ≤ B) := by
  intro d
  induction d with
  | zero =>
    intro i x a hi hx h0 ha
    refine Ep.up ?_
    simp only [laws_markEdgeS.l0]
    exact Ep.neg (by omega) (Ep.now ⟨h0, by omega⟩)
  | succ d ih =>
    intro i x a hi hx h0 ha
    refine Ep.up ?_
    simp only [laws_markEdgeS.l0]
    refine Ep.pos (by omega) (Ep.pos (by omega) (Ep.bind0 rfl ?_))
    rw [wrap_succ (by omega), wrap_id (x := a + 1) (by omega) (by omega), wrap_id (x := a + 1 + 1) (by omega) (by omega)]
    exact ih (i + 1) _ _ (by omega) (by simpa using hx) (by omega) (by omega)
theorem markGraph_ok (n : Int) (es : List E) (a : Int) (h : es.length ≤ 1048576) (ha : 0 ≤ a ∧ a ≤ 1000) : Ep (fun k => laws_markGraph.f k n es a) (fun r => 0 ≤ r.1 ∧ r.1 ≤ 3000000) := by
  have := markEdgeS_l0 es.length h (B := 3000000) (by omega) es.length 0 es a (by omega) rfl ha.1 (by omega)
  simp only [laws_markGraph.f, laws_markEdgeS.f]
  refine Ep.bind this ?_
  intro r hr
  exact Ep.now hr
end Go.Proofs.Ytjecgolakaiddaa.Cf
end

section
namespace Go.Proofs.Ytjecgolakaiddaa.Cf
set_option linter.unusedVariables false
set_option linter.unusedSimpArgs false
open Go.RowKit Go.Proofs.YtjecgolakaiddaaW.PrintWords Go.Proofs.Ytjecgolakaiddaa.P
theorem law_FnExactOrientByBurning (n : Int) (es : List E) (l : List Int) (q : Int) (hn : Wf .i64 n) (hes : SL EWf es) (wl : SL (Wf .i64) l) (wq : Wf .i64 q) : Ep (fun k => laws_FnExactOrientByBurning.f k n es l q) (· = true) := by
  have hr0 : ((obbO n es l q).1).length ≤ 1048576 := by have := obbO_len n es l q; omega
  simp only [laws_FnExactOrientByBurning.f]
  refine Ep.ite (fun _ => Ep.now rfl) (fun hcl => ?_)
  have hl : l.length ≤ 1048576 := by omega
  obtain ⟨t, ht, _, h2⟩ := szGraph_ok n es 1048576 (by omega) hes.1
  refine Ep.bind0 ht (Ep.ite (fun _ => Ep.now rfl) (fun hc2 => ?_))
  have hel := h2 hc2
  repeat (first
    | exact Ep.now rfl
    | (refine Ep.bind (toGraph_ok _ _ hel) ?_; rintro _ rfl)
    | (refine Ep.bind (eqGraph_ok _ _ hel) ?_; rintro _ rfl)
    | (refine Ep.bind (toIntS_ok _ hl) ?_; rintro _ rfl)
    | (refine Ep.bind (eqIntS_ok _ hr0) ?_; rintro _ rfl)
    | (refine Ep.bind (eqIntS_ok _ hl) ?_; rintro _ rfl)
    | (refine Ep.bind (specObb _ _ _ _ hel hl) ?_; rintro _ rfl)
    | (refine Ep.bind (implObb _ _ _ _ hn hel hl) ?_; rintro _ rfl)
    | (refine Ep.bind (heldIntS_ok _ _ hr0 (by first | omega | (simp; omega))) ?_; rintro _ rfl)
    | (refine Ep.bind (markIntS_ok _ _ hr0 (by first | omega | (simp; omega))) ?_; rintro _ rfl)
    | (refine Ep.bind (markIntS_ok _ _ hl (by first | omega | (simp; omega))) ?_; rintro _ rfl)
    | (refine Ep.bind (markGraph_ok _ _ 1 hel (by omega)) ?_; intro r hr0_)
    | refine Ep.pos rfl ?_
    | refine Ep.pos trivial ?_
    | refine Ep.neg (by simp; omega) ?_
    | refine Ep.neg (by omega) ?_
    | refine Ep.neg (by simp) ?_
    | (refine Ep.up ?_; simp only [laws_FnExactOrientByBurning.j0])
    | (refine Ep.up ?_; simp only [laws_FnExactOrientByBurning.j1])
    | (refine Ep.up ?_; simp only [laws_FnExactOrientByBurning.j2]))
end Go.Proofs.Ytjecgolakaiddaa.Cf
end

section
namespace Go.Proofs.Ytjecgolakaiddaa.Cf
set_option linter.unusedVariables false
set_option linter.unusedSimpArgs false
open Go.RowKit Go.ChangeShapes Go.WideShapes Go.Deep Go.Joins Go.Proofs.YtjecgolakaiddaaW.PrintWords
section
variable {H : Type} {enc : TypeId × Value → H} {P : Program} {w : World} {base : Nat} {spare : Nat → Bool} {held : Bool}
/-- A slice, whatever its elements are, if each of them can be told. -/
theorem trod_C {α : Type} {d : Kd α} {Q : α → Prop} (hd : Inhabited α) {t e : TypeId} {fuel : Nat} {cs : List Value} {x : DataW H × List MemPlace} (ht : P.underlying t = some (.slice e)) (hsz : P.cellsOf e = d.sz)
    (hel : ∀ (n : Nat) (cs : List Value) (y : DataW H × List MemPlace), DataW.trod enc P w base spare held n e cs = some y → ∃ a : α, d.K w a cs ∧ Q a)
    (h : DataW.trod enc P w base spare held fuel t cs = some x) : ∃ A len cap xs, cs = [.slice A len cap] ∧ xs.length = len ∧ len ≤ cap ∧ Kd.C d w A len xs ∧ SL Q xs := by
  rcases open_slice ht h with ⟨rfl, _⟩ | ⟨a, len, cap, m, n, D, Pl, rfl, _, hl, hm, hmm, _, hx⟩
  · exact ⟨none, 0, 0, [], rfl, rfl, Nat.le_refl _, ⟨rfl, by omega, fun hn => by omega⟩, by simp, fun x hx => by cases hx⟩
  · have hlm : len ≤ m := by rw [hmm]; split <;> omega
    obtain ⟨X, hX⟩ := choose_lt (α := α) (n := len) (p := fun i z => Q z ∧ ∃ c, c.length = d.sz ∧ d.K w z c ∧ ∀ j u, c[j]? = some u → w.cell? (a.add (i * d.sz + j)) = some u) (fun i hi => by
      obtain ⟨cs', h1, h2⟩ := hx i (by omega)
      obtain ⟨z, hz, hq⟩ := hel n cs' _ h2
      obtain ⟨_, hlen, hc⟩ := World.cells?_some h1
      refine ⟨z, hq, cs', by rw [hlen, hsz], hz, fun j u hj => ?_⟩
      have hjl : j < cs'.length := by
        apply Classical.byContradiction
        intro hc
        rw [List.getElem?_eq_none (by omega)] at hj
        cases hj
      have := hc j (by omega)
      rw [Deep.add_add, hsz] at this
      rw [this, hj])
    refine ⟨some a, len, cap, (List.range len).map X, rfl, by simp, hl, ⟨by simp, ?_, fun _ => ⟨a, rfl, fun j p hj => ?_⟩⟩, by simp; unfold maxLen at hm; omega, fun x hx => ?_⟩
    · unfold maxLen at hm
      omega
    · have hjl : j < len := by
        apply Classical.byContradiction
        intro hc
        rw [List.getElem?_eq_none (by simp; omega)] at hj
        cases hj
      have : p = X j := by
        rw [List.getElem?_eq_getElem (by simpa using hjl)] at hj
        simpa using hj.symm
      subst this
      exact (hX j hjl).2
    · obtain ⟨i, hi, rfl⟩ := List.mem_map.1 hx
      exact (hX i (List.mem_range.1 hi)).1
theorem el_int {k : IntKind} {e : TypeId} (he : P.underlying e = some (.int k)) : ∀ (n : Nat) (cs : List Value) (y : DataW H × List MemPlace), DataW.trod enc P w base spare held n e cs = some y → ∃ a : Int, (Kd.int k).K w a cs ∧ Wf k a := by
  intro n cs y h
  obtain ⟨a, rfl, _, hw⟩ := DataW.trod_int he h
  exact ⟨a, rfl, hw⟩
/-- A struct of two numbers. -/
theorem el_pair {k0 k1 : IntKind} {e : TypeId} {f0 f1 : Field} (he : P.underlying e = some (.struct #[f0, f1])) (ce : P.cellsOf e = 2) (o0 : f0.offset = 0) (o1 : f1.offset = 1) (c0 : P.cellsOf f0.type = 1) (c1 : P.cellsOf f1.type = 1)
    (u0 : P.underlying f0.type = some (.int k0)) (u1 : P.underlying f1.type = some (.int k1)) :
    ∀ (n : Nat) (cs : List Value) (y : DataW H × List MemPlace), DataW.trod enc P w base spare held n e cs = some y → ∃ a b : Int, cs = [.int k0 a, .int k1 b] ∧ Wf k0 a ∧ Wf k1 b := by
  intro n cs y h
  obtain ⟨y0, y1, m, _, hl, h0, h1⟩ := trod_struct2 he h
  rw [ce] at hl
  rw [o0, c0] at h0
  rw [o1, c1] at h1
  match cs, hl with
  | [a, b], _ =>
    obtain ⟨x, hx, _, wx⟩ := DataW.trod_int u0 h0
    obtain ⟨z, hz, _, wz⟩ := DataW.trod_int u1 h1
    simp at hx hz
    subst hx; subst hz
    exact ⟨x, z, rfl, wx, wz⟩
/-- A slice that comes in. -/
theorem arg_slice {α : Type} {d : Kd α} {Q : α → Prop} (hd : Inhabited α) {t e : TypeId} {a : Option Addr} {len cap : Nat} {x : DataW H} {ps : List MemPlace} (ht : P.underlying t = some (.slice e)) (hsz : P.cellsOf e = d.sz)
    (hel : ∀ (n : Nat) (cs : List Value) (y : DataW H × List MemPlace), DataW.trod enc P w base spare held n e cs = some y → ∃ a : α, d.K w a cs ∧ Q a)
    (h : DataW.Trod enc P w base spare held t (.slice a len cap) x ps) : ∃ xs : List α, xs.length = len ∧ len ≤ cap ∧ Kd.C d w a len xs ∧ SL Q xs := by
  obtain ⟨fuel, hf⟩ := h
  obtain ⟨A, l, c, xs, hcs, hl, hc, hC, hq⟩ := trod_C hd ht hsz hel hf
  simp [Value.cells] at hcs
  obtain ⟨rfl, rfl, rfl⟩ := hcs
  exact ⟨xs, hl, hc, hC, hq⟩
/-- A struct of a number and a slice that comes in. -/
theorem arg_graph {α : Type} {d : Kd α} {Q : α → Prop} (hd : Inhabited α) {r : Reach} {b0 : Nat} {t e : TypeId} {f0 f1 : Field} {v : Value} {x : DataW H} {p : List MemPlace} (hs : P.underlying t = some (.struct #[f0, f1])) (hone : oneCellFields P #[f0, f1] = true) (hC : P.cellsOf t = 2)
    (u0 : P.underlying f0.type = some (.int .i64)) (u1 : P.underlying f1.type = some (.slice e)) (hsz : P.cellsOf e = d.sz)
    (hel : ∀ (n : Nat) (cs : List Value) (y : DataW H × List MemPlace), DataW.trod enc P w base spare held n e cs = some y → ∃ a : α, d.K w a cs ∧ Q a)
    (hv : Value.okWide P w r b0 t v) (h : DataW.Trod enc P w base spare held t v x p) : ∃ n a len cap, ∃ xs : List α, v = .agg #[.int .i64 n, .slice a len cap] ∧ Wf .i64 n ∧ xs.length = len ∧ len ≤ cap ∧ Kd.C d w a len xs ∧ SL Q xs := by
  obtain ⟨v0, v1, y0, y1, m, rfl, _, _, h0, h1⟩ := open_agg2 hs hone hC hv h
  obtain ⟨n, hn, _, hw⟩ := DataW.trod_int u0 h0
  obtain ⟨A, len, cap, xs, hcs, hl, hc, hx, hq⟩ := trod_C hd u1 hsz hel h1
  simp at hn hcs
  subst hn; subst hcs
  exact ⟨n, A, len, cap, xs, rfl, hw, hl, hc, hx, hq⟩
end
end Go.Proofs.Ytjecgolakaiddaa.Cf
end

section
namespace Go.Proofs.Ytjecgolakaiddaa.Cf
theorem and2 {a b : Bool} (h : a = true) (k : b = true) : (a && b) = true := by rw [h, k]; rfl
theorem iniS : Try.prog.initOrder.toList = ['h', 'a', 'r', 'n', 'e', 's', 's', ' ', '0', '0', 'c', '4', 'f', '8', 'b', '5', '8', 'c', '3', 'd', '6', '2', '4', '4', '8', '9', '3', '8', '3', '5', 'b', '9', 'e', 'b', '3', '8', 'e', '6', '4', '2', '8', '4', '2', '8', '5', '7', 'b', '4', '9', 'c', 'c', '7', '0', '7', '7', 'e', '6', '8', '7', '0', '9', '9', '8', '2', 'd', '4', 'c', 'f', 'b', '1', 'b', '8', ' ', 'c', 'u', 't', ' ', 'a', 't', ' ', 'l', 'o', 'o', 'p', '.', 'e', 'x', 'a', 'm', 'p', 'l', 'e', '/', 'g', '0', '0', '8', '4', '1', '/', 'l', 'a', 'w', 's', '.', 'F', 'n', 'E', 'x', 'a', 'c', 't', 'R', 'o', 'w', 'O', 'f', 'O', 'n', 'e', ' ', 'l', 'o', 'o', 'p', '.', 'e', 'x', 'a', 'm', 'p', 'l', 'e', '/', 'g', '0', '0', '8', '4', '1', '/', 'l', 'a', 'w', 's', '.', 'F', 'n', 'E', 'x', 'a', 'c', 't', 'I', 's', 'T', 'r', 'e', 'e', 'S', 't', 'a', 't', 'e', ' ', 'l', 'o', 'o', 'p', '.', 'e', 'x', 'a', 'm', 'p', 'l', 'e', '/', 'g', '0', '0', '8', '4', '1', '/', 'l', 'a', 'w', 's', '.', 'F', 'n', 'E', 'x', 'a', 'c', 't', 'F', 'u', 'l', 'l', 'P', 'i', 'l', 'e', ' ', 'l', 'o', 'o', 'p', '.', 'e', 'x', 'a', 'm', 'p', 'l', 'e', '/', 'g', '0', '0', '8', '4', '1', '/', 'l', 'a', 'w', 's', '.', 'F', 'n', 'E', 'x', 'a', 'c', 't', 'I', 's', 'A', 'c', 'y', 'c', 'l', 'i', 'c', ' ', 'l', 'o', 'o', 'p', '.', 'e', 'x', 'a', 'm', 'p', 'l', 'e', '/', 'g', '0', '0', '8', '4', '1', '/', 'l', 'a', 'w', 's', '.', 'F', 'n', 'E', 'x', 'a', 'c', 't', 'D', 'i', 'v', 'i', 's', 'o', 'r', 'O', 'f', 'O', 'r', 'i', 'e', 'n', 't', ' ', 'l', 'o', 'o', 'p', '.', 'e', 'x', 'a', 'm', 'p', 'l', 'e', '/', 'g', '0', '0', '8', '4', '1', '/', 'l', 'a', 'w', 's', '.', 'F', 'n', 'E', 'x', 'a', 'c', 't', 'S', 't', 'e', 'p', 'W', 'a', 'l', 'k', 'e', 'r', ' ', 'l', 'o', 'o', 'p', '.', 'e', 'x', 'a', 'm', 'p', 'l', 'e', '/', 'g', '0', '0', '8', '4', '1', '/', 'l', 'a', 'w', 's', '.', 'F', 'n', 'E', 'x', 'a', 'c', 't', 'W', 'a', 'l', 'k', 'T', 'o', 'S', 'i', 'n', 'k', ' ', 'l', 'o', 'o', 'p', '.', 'e', 'x', 'a', 'm', 'p', 'l', 'e', '/', 'g', '0', '0', '8', '4', '1', '/', 'l', 'a', 'w', 's', '.', 'F', 'n', 'E', 'x', 'a', 'c', 't', 'S', 'o', 'u', 'r', 'c', 'e', 's', 'O', 'f', ' ', 'l', 'o', 'o', 'p', '.', 'e', 'x', 'a', 'm', 'p', 'l', 'e', '/', 'g', '0', '0', '8', '4', '1', '/', 'l', 'a', 'w', 's', '.', 'F', 'n', 'E', 'x', 'a', 'c', 't', 'S', 't', 'a', 't', 'e', 'O', 'f', 'T', 'r', 'e', 'e', ' ', 'l', 'o', 'o', 'p', '.', 'e', 'x', 'a', 'm', 'p', 'l', 'e', '/', 'g', '0', '0', '8', '4', '1', '/', 'l', 'a', 'w', 's', '.', 'F', 'n', 'E', 'x', 'a', 'c', 't', 'I', 's', 'P', 'a', 'r', 'k', 'i', 'n', 'g', ' ', 'l', 'o', 'o', 'p', '.', 'e', 'x', 'a', 'm', 'p', 'l', 'e', '/', 'g', '0', '0', '8', '4', '1', '/', 'l', 'a', 'w', 's', '.', 'F', 'n', 'E', 'x', 'a', 'c', 't', 'T', 'o', 'p', 'p', 'l', 'e', ' ', 'l', 'o', 'o', 'p', '.', 'e', 'x', 'a', 'm', 'p', 'l', 'e', '/', 'g', '0', '0', '8', '4', '1', '/', 'l', 'a', 'w', 's', '.', 'F', 'n', 'E', 'x', 'a', 'c', 't', 'F', 'l', 'i', 'p', 'S', 'o', 'u', 'r', 'c', 'e', ' ', 'l', 'o', 'o', 'p', '.', 'e', 'x', 'a', 'm', 'p', 'l', 'e', '/', 'g', '0', '0', '8', '4', '1', '/', 'l', 'a', 'w', 's', '.', 'F', 'n', 'E', 'x', 'a', 'c', 't', 'C', 'o', 'u', 'n', 't', 'A', 'c', 'y', 'c', 'l', 'i', 'c', ' ', 'l', 'o', 'o', 'p', '.', 'e', 'x', 'a', 'm', 'p', 'l', 'e', '/', 'g', '0', '0', '8', '4', '1', '/', 'l', 'a', 'w', 's', '.', 'F', 'n', 'E', 'x', 'a', 'c', 't', 'A', 'v', 'a', 'l', 'a', 'n', 'c', 'h', 'e', 'S', 'i', 'z', 'e', ' ', 'l', 'o', 'o', 'p', '.', 'e', 'x', 'a', 'm', 'p', 'l', 'e', '/', 'g', '0', '0', '8', '4', '1', '/', 'l', 'a', 'w', 's', '.', 'F', 'n', 'E', 'x', 'a', 'c', 't', 'S', 't', 'a', 'b', 'i', 'l', 'i', 'z', 'e', ' ', 'l', 'o', 'o', 'p', '.', 'e', 'x', 'a', 'm', 'p', 'l', 'e', '/', 'g', '0', '0', '8', '4', '1', '/', 'l', 'a', 'w', 's', '.', 'F', 'n', 'E', 'x', 'a', 'c', 't', 'O', 'r', 'i', 'e', 'n', 't', 'B', 'y', 'B', 'u', 'r', 'n', 'i', 'n', 'g', ' ', 'l', 'o', 'o', 'p', '.', 'e', 'x', 'a', 'm', 'p', 'l', 'e', '/', 'g', '0', '0', '8', '4', '1', '/', 'l', 'a', 'w', 's', '.', 'F', 'n', 'E', 'x', 'a', 'c', 't', 'S', 'u', 'm', 'O', 'f', 'P', 'i', 'l', 'e', 's', ' ', 'l', 'o', 'o', 'p', '.', 'e', 'x', 'a', 'm', 'p', 'l', 'e', '/', 'g', '0', '0', '8', '4', '1', '/', 'l', 'a', 'w', 's', '.', 'F', 'n', 'E', 'x', 'a', 'c', 't', 'I', 's', 'R', 'e', 'c', 'u', 'r', 'r', 'e', 'n', 't', ' ', 'l', 'o', 'o', 'p', '.', 'e', 'x', 'a', 'm', 'p', 'l', 'e', '/', 'g', '0', '0', '8', '4', '1', '/', 'l', 'a', 'w', 's', '.', 'F', 'n', 'E', 'x', 'a', 'c', 't', 'D', 'r', 'o', 'p', 'C', 'h', 'i', 'p', ' ', 'l', 'o', 'o', 'p', '.', 'e', 'x', 'a', 'm', 'p', 'l', 'e', '/', 'g', '0', '0', '8', '4', '1', '/', 'l', 'a', 'w', 's', '.', 'F', 'n', 'E', 'x', 'a', 'c', 't', 'L', 'e', 'v', 'e', 'l', 'O', 'f', ' ', 'l', 'o', 'o', 'p', '.', 'e', 'x', 'a', 'm', 'p', 'l', 'e', '/', 'g', '0', '0', '8', '4', '1', '/', 'l', 'a', 'w', 's', '.', 'F', 'n', 'E', 'x', 'a', 'c', 't', 'P', 'i', 'l', 'e', 'O', 'f', 'P', 'a', 'r', 'k', 'i', 'n', 'g', ' ', 'l', 'o', 'o', 'p', '.', 'e', 'x', 'a', 'm', 'p', 'l', 'e', '/', 'g', '0', '0', '8', '4', '1', '/', 'l', 'a', 'w', 's', '.', 'F', 'n', 'E', 'x', 'a', 'c', 't', 'O', 'r', 'd', 'e', 'r', 'O', 'f', ' ', 'l', 'o', 'o', 'p', '.', 'e', 'x', 'a', 'm', 'p', 'l', 'e', '/', 'g', '0', '0', '8', '4', '1', '/', 'l', 'a', 'w', 's', '.', 'F', 'n', 'E', 'x', 'a', 'c', 't', 'S', 'u', 'm', 'O', 'f', 'C', 'l', 'a', 's', 's', 'e', 's', ' ', 'l', 'o', 'o', 'p', '.', 'e', 'x', 'a', 'm', 'p', 'l', 'e', '/', 'g', '0', '0', '8', '4', '1', '/', 'l', 'a', 'w', 's', '.', 'F', 'n', 'E', 'x', 'a', 'c', 't', 'I', 'n', 'v', 'e', 'r', 's', 'e', 'C', 'l', 'a', 's', 's', ' ', 'l', 'o', 'o', 'p', '.', 'e', 'x', 'a', 'm', 'p', 'l', 'e', '/', 'g', '0', '0', '8', '4', '1', '/', 'l', 'a', 'w', 's', '.', 'F', 'n', 'E', 'x', 'a', 'c', 't', 'I', 'd', 'e', 'n', 't', 'i', 't', 'y', 'P', 'i', 'l', 'e', ' ', 'l', 'o', 'o', 'p', '.', 'e', 'x', 'a', 'm', 'p', 'l', 'e', '/', 'g', '0', '0', '8', '4', '1', '/', 'l', 'a', 'w', 's', '.', 'F', 'n', 'E', 'x', 'a', 'c', 't', 'P', 'a', 'r', 'k', 'i', 'n', 'g', 'O', 'f', 'P', 'i', 'l', 'e', ' ', 'l', 'o', 'o', 'p', '.', 'e', 'x', 'a', 'm', 'p', 'l', 'e', '/', 'g', '0', '0', '8', '4', '1', '/', 'l', 'a', 'w', 's', '.', 'F', 'n', 'E', 'x', 'a', 'c', 't', 'T', 'i', 'm', 'e', 's', 'C', 'l', 'a', 's', 's', ' ', 'l', 'o', 'o', 'p', '.', 'e', 'x', 'a', 'm', 'p', 'l', 'e', '/', 'g', '0', '0', '8', '4', '1', '/', 'l', 'a', 'w', 's', '.', 'F', 'n', 'E', 'x', 'a', 'c', 't', 'R', 'e', 'c', 'u', 'r', 'r', 'e', 'n', 't', 'O', 'f', ' ', 'l', 'o', 'o', 'p', '.', 'e', 'x', 'a', 'm', 'p', 'l', 'e', '/', 'g', '0', '0', '8', '4', '1', '/', 'l', 'a', 'w', 's', '.', 'F', 'n', 'E', 'x', 'a', 'c', 't', 'I', 'n', 'v', 'e', 'r', 's', 'e', 'P', 'i', 'l', 'e'] := by
  have h : Try.prog.initOrder = String.ofList ['h', 'a', 'r', 'n', 'e', 's', 's', ' ', '0', '0', 'c', '4', 'f', '8', 'b', '5', '8', 'c', '3', 'd', '6', '2', '4', '4', '8', '9', '3', '8', '3', '5', 'b', '9', 'e', 'b', '3', '8', 'e', '6', '4', '2', '8', '4', '2', '8', '5', '7', 'b', '4', '9', 'c', 'c', '7', '0', '7', '7', 'e', '6', '8', '7', '0', '9', '9', '8', '2', 'd', '4', 'c', 'f', 'b', '1', 'b', '8', ' ', 'c', 'u', 't', ' ', 'a', 't', ' ', 'l', 'o', 'o', 'p', '.', 'e', 'x', 'a', 'm', 'p', 'l', 'e', '/', 'g', '0', '0', '8', '4', '1', '/', 'l', 'a', 'w', 's', '.', 'F', 'n', 'E', 'x', 'a', 'c', 't', 'R', 'o', 'w', 'O', 'f', 'O', 'n', 'e', ' ', 'l', 'o', 'o', 'p', '.', 'e', 'x', 'a', 'm', 'p', 'l', 'e', '/', 'g', '0', '0', '8', '4', '1', '/', 'l', 'a', 'w', 's', '.', 'F', 'n', 'E', 'x', 'a', 'c', 't', 'I', 's', 'T', 'r', 'e', 'e', 'S', 't', 'a', 't', 'e', ' ', 'l', 'o', 'o', 'p', '.', 'e', 'x', 'a', 'm', 'p', 'l', 'e', '/', 'g', '0', '0', '8', '4', '1', '/', 'l', 'a', 'w', 's', '.', 'F', 'n', 'E', 'x', 'a', 'c', 't', 'F', 'u', 'l', 'l', 'P', 'i', 'l', 'e', ' ', 'l', 'o', 'o', 'p', '.', 'e', 'x', 'a', 'm', 'p', 'l', 'e', '/', 'g', '0', '0', '8', '4', '1', '/', 'l', 'a', 'w', 's', '.', 'F', 'n', 'E', 'x', 'a', 'c', 't', 'I', 's', 'A', 'c', 'y', 'c', 'l', 'i', 'c', ' ', 'l', 'o', 'o', 'p', '.', 'e', 'x', 'a', 'm', 'p', 'l', 'e', '/', 'g', '0', '0', '8', '4', '1', '/', 'l', 'a', 'w', 's', '.', 'F', 'n', 'E', 'x', 'a', 'c', 't', 'D', 'i', 'v', 'i', 's', 'o', 'r', 'O', 'f', 'O', 'r', 'i', 'e', 'n', 't', ' ', 'l', 'o', 'o', 'p', '.', 'e', 'x', 'a', 'm', 'p', 'l', 'e', '/', 'g', '0', '0', '8', '4', '1', '/', 'l', 'a', 'w', 's', '.', 'F', 'n', 'E', 'x', 'a', 'c', 't', 'S', 't', 'e', 'p', 'W', 'a', 'l', 'k', 'e', 'r', ' ', 'l', 'o', 'o', 'p', '.', 'e', 'x', 'a', 'm', 'p', 'l', 'e', '/', 'g', '0', '0', '8', '4', '1', '/', 'l', 'a', 'w', 's', '.', 'F', 'n', 'E', 'x', 'a', 'c', 't', 'W', 'a', 'l', 'k', 'T', 'o', 'S', 'i', 'n', 'k', ' ', 'l', 'o', 'o', 'p', '.', 'e', 'x', 'a', 'm', 'p', 'l', 'e', '/', 'g', '0', '0', '8', '4', '1', '/', 'l', 'a', 'w', 's', '.', 'F', 'n', 'E', 'x', 'a', 'c', 't', 'S', 'o', 'u', 'r', 'c', 'e', 's', 'O', 'f', ' ', 'l', 'o', 'o', 'p', '.', 'e', 'x', 'a', 'm', 'p', 'l', 'e', '/', 'g', '0', '0', '8', '4', '1', '/', 'l', 'a', 'w', 's', '.', 'F', 'n', 'E', 'x', 'a', 'c', 't', 'S', 't', 'a', 't', 'e', 'O', 'f', 'T', 'r', 'e', 'e', ' ', 'l', 'o', 'o', 'p', '.', 'e', 'x', 'a', 'm', 'p', 'l', 'e', '/', 'g', '0', '0', '8', '4', '1', '/', 'l', 'a', 'w', 's', '.', 'F', 'n', 'E', 'x', 'a', 'c', 't', 'I', 's', 'P', 'a', 'r', 'k', 'i', 'n', 'g', ' ', 'l', 'o', 'o', 'p', '.', 'e', 'x', 'a', 'm', 'p', 'l', 'e', '/', 'g', '0', '0', '8', '4', '1', '/', 'l', 'a', 'w', 's', '.', 'F', 'n', 'E', 'x', 'a', 'c', 't', 'T', 'o', 'p', 'p', 'l', 'e', ' ', 'l', 'o', 'o', 'p', '.', 'e', 'x', 'a', 'm', 'p', 'l', 'e', '/', 'g', '0', '0', '8', '4', '1', '/', 'l', 'a', 'w', 's', '.', 'F', 'n', 'E', 'x', 'a', 'c', 't', 'F', 'l', 'i', 'p', 'S', 'o', 'u', 'r', 'c', 'e', ' ', 'l', 'o', 'o', 'p', '.', 'e', 'x', 'a', 'm', 'p', 'l', 'e', '/', 'g', '0', '0', '8', '4', '1', '/', 'l', 'a', 'w', 's', '.', 'F', 'n', 'E', 'x', 'a', 'c', 't', 'C', 'o', 'u', 'n', 't', 'A', 'c', 'y', 'c', 'l', 'i', 'c', ' ', 'l', 'o', 'o', 'p', '.', 'e', 'x', 'a', 'm', 'p', 'l', 'e', '/', 'g', '0', '0', '8', '4', '1', '/', 'l', 'a', 'w', 's', '.', 'F', 'n', 'E', 'x', 'a', 'c', 't', 'A', 'v', 'a', 'l', 'a', 'n', 'c', 'h', 'e', 'S', 'i', 'z', 'e', ' ', 'l', 'o', 'o', 'p', '.', 'e', 'x', 'a', 'm', 'p', 'l', 'e', '/', 'g', '0', '0', '8', '4', '1', '/', 'l', 'a', 'w', 's', '.', 'F', 'n', 'E', 'x', 'a', 'c', 't', 'S', 't', 'a', 'b', 'i', 'l', 'i', 'z', 'e', ' ', 'l', 'o', 'o', 'p', '.', 'e', 'x', 'a', 'm', 'p', 'l', 'e', '/', 'g', '0', '0', '8', '4', '1', '/', 'l', 'a', 'w', 's', '.', 'F', 'n', 'E', 'x', 'a', 'c', 't', 'O', 'r', 'i', 'e', 'n', 't', 'B', 'y', 'B', 'u', 'r', 'n', 'i', 'n', 'g', ' ', 'l', 'o', 'o', 'p', '.', 'e', 'x', 'a', 'm', 'p', 'l', 'e', '/', 'g', '0', '0', '8', '4', '1', '/', 'l', 'a', 'w', 's', '.', 'F', 'n', 'E', 'x', 'a', 'c', 't', 'S', 'u', 'm', 'O', 'f', 'P', 'i', 'l', 'e', 's', ' ', 'l', 'o', 'o', 'p', '.', 'e', 'x', 'a', 'm', 'p', 'l', 'e', '/', 'g', '0', '0', '8', '4', '1', '/', 'l', 'a', 'w', 's', '.', 'F', 'n', 'E', 'x', 'a', 'c', 't', 'I', 's', 'R', 'e', 'c', 'u', 'r', 'r', 'e', 'n', 't', ' ', 'l', 'o', 'o', 'p', '.', 'e', 'x', 'a', 'm', 'p', 'l', 'e', '/', 'g', '0', '0', '8', '4', '1', '/', 'l', 'a', 'w', 's', '.', 'F', 'n', 'E', 'x', 'a', 'c', 't', 'D', 'r', 'o', 'p', 'C', 'h', 'i', 'p', ' ', 'l', 'o', 'o', 'p', '.', 'e', 'x', 'a', 'm', 'p', 'l', 'e', '/', 'g', '0', '0', '8', '4', '1', '/', 'l', 'a', 'w', 's', '.', 'F', 'n', 'E', 'x', 'a', 'c', 't', 'L', 'e', 'v', 'e', 'l', 'O', 'f', ' ', 'l', 'o', 'o', 'p', '.', 'e', 'x', 'a', 'm', 'p', 'l', 'e', '/', 'g', '0', '0', '8', '4', '1', '/', 'l', 'a', 'w', 's', '.', 'F', 'n', 'E', 'x', 'a', 'c', 't', 'P', 'i', 'l', 'e', 'O', 'f', 'P', 'a', 'r', 'k', 'i', 'n', 'g', ' ', 'l', 'o', 'o', 'p', '.', 'e', 'x', 'a', 'm', 'p', 'l', 'e', '/', 'g', '0', '0', '8', '4', '1', '/', 'l', 'a', 'w', 's', '.', 'F', 'n', 'E', 'x', 'a', 'c', 't', 'O', 'r', 'd', 'e', 'r', 'O', 'f', ' ', 'l', 'o', 'o', 'p', '.', 'e', 'x', 'a', 'm', 'p', 'l', 'e', '/', 'g', '0', '0', '8', '4', '1', '/', 'l', 'a', 'w', 's', '.', 'F', 'n', 'E', 'x', 'a', 'c', 't', 'S', 'u', 'm', 'O', 'f', 'C', 'l', 'a', 's', 's', 'e', 's', ' ', 'l', 'o', 'o', 'p', '.', 'e', 'x', 'a', 'm', 'p', 'l', 'e', '/', 'g', '0', '0', '8', '4', '1', '/', 'l', 'a', 'w', 's', '.', 'F', 'n', 'E', 'x', 'a', 'c', 't', 'I', 'n', 'v', 'e', 'r', 's', 'e', 'C', 'l', 'a', 's', 's', ' ', 'l', 'o', 'o', 'p', '.', 'e', 'x', 'a', 'm', 'p', 'l', 'e', '/', 'g', '0', '0', '8', '4', '1', '/', 'l', 'a', 'w', 's', '.', 'F', 'n', 'E', 'x', 'a', 'c', 't', 'I', 'd', 'e', 'n', 't', 'i', 't', 'y', 'P', 'i', 'l', 'e', ' ', 'l', 'o', 'o', 'p', '.', 'e', 'x', 'a', 'm', 'p', 'l', 'e', '/', 'g', '0', '0', '8', '4', '1', '/', 'l', 'a', 'w', 's', '.', 'F', 'n', 'E', 'x', 'a', 'c', 't', 'P', 'a', 'r', 'k', 'i', 'n', 'g', 'O', 'f', 'P', 'i', 'l', 'e', ' ', 'l', 'o', 'o', 'p', '.', 'e', 'x', 'a', 'm', 'p', 'l', 'e', '/', 'g', '0', '0', '8', '4', '1', '/', 'l', 'a', 'w', 's', '.', 'F', 'n', 'E', 'x', 'a', 'c', 't', 'T', 'i', 'm', 'e', 's', 'C', 'l', 'a', 's', 's', ' ', 'l', 'o', 'o', 'p', '.', 'e', 'x', 'a', 'm', 'p', 'l', 'e', '/', 'g', '0', '0', '8', '4', '1', '/', 'l', 'a', 'w', 's', '.', 'F', 'n', 'E', 'x', 'a', 'c', 't', 'R', 'e', 'c', 'u', 'r', 'r', 'e', 'n', 't', 'O', 'f', ' ', 'l', 'o', 'o', 'p', '.', 'e', 'x', 'a', 'm', 'p', 'l', 'e', '/', 'g', '0', '0', '8', '4', '1', '/', 'l', 'a', 'w', 's', '.', 'F', 'n', 'E', 'x', 'a', 'c', 't', 'I', 'n', 'v', 'e', 'r', 's', 'e', 'P', 'i', 'l', 'e'] := by kernel_rfl
  exact (congrArg String.toList h).trans String.toList_ofList
theorem iniW : behindMainWord (wordsSigns Try.prog.initOrder.toList) = [['c', 'u', 't'], ['a', 't'], ['l', 'o', 'o', 'p', '.', 'e', 'x', 'a', 'm', 'p', 'l', 'e', '/', 'g', '0', '0', '8', '4', '1', '/', 'l', 'a', 'w', 's', '.', 'F', 'n', 'E', 'x', 'a', 'c', 't', 'R', 'o', 'w', 'O', 'f', 'O', 'n', 'e'], ['l', 'o', 'o', 'p', '.', 'e', 'x', 'a', 'm', 'p', 'l', 'e', '/', 'g', '0', '0', '8', '4', '1', '/', 'l', 'a', 'w', 's', '.', 'F', 'n', 'E', 'x', 'a', 'c', 't', 'I', 's', 'T', 'r', 'e', 'e', 'S', 't', 'a', 't', 'e'], ['l', 'o', 'o', 'p', '.', 'e', 'x', 'a', 'm', 'p', 'l', 'e', '/', 'g', '0', '0', '8', '4', '1', '/', 'l', 'a', 'w', 's', '.', 'F', 'n', 'E', 'x', 'a', 'c', 't', 'F', 'u', 'l', 'l', 'P', 'i', 'l', 'e'], ['l', 'o', 'o', 'p', '.', 'e', 'x', 'a', 'm', 'p', 'l', 'e', '/', 'g', '0', '0', '8', '4', '1', '/', 'l', 'a', 'w', 's', '.', 'F', 'n', 'E', 'x', 'a', 'c', 't', 'I', 's', 'A', 'c', 'y', 'c', 'l', 'i', 'c'], ['l', 'o', 'o', 'p', '.', 'e', 'x', 'a', 'm', 'p', 'l', 'e', '/', 'g', '0', '0', '8', '4', '1', '/', 'l', 'a', 'w', 's', '.', 'F', 'n', 'E', 'x', 'a', 'c', 't', 'D', 'i', 'v', 'i', 's', 'o', 'r', 'O', 'f', 'O', 'r', 'i', 'e', 'n', 't'], ['l', 'o', 'o', 'p', '.', 'e', 'x', 'a', 'm', 'p', 'l', 'e', '/', 'g', '0', '0', '8', '4', '1', '/', 'l', 'a', 'w', 's', '.', 'F', 'n', 'E', 'x', 'a', 'c', 't', 'S', 't', 'e', 'p', 'W', 'a', 'l', 'k', 'e', 'r'], ['l', 'o', 'o', 'p', '.', 'e', 'x', 'a', 'm', 'p', 'l', 'e', '/', 'g', '0', '0', '8', '4', '1', '/', 'l', 'a', 'w', 's', '.', 'F', 'n', 'E', 'x', 'a', 'c', 't', 'W', 'a', 'l', 'k', 'T', 'o', 'S', 'i', 'n', 'k'], ['l', 'o', 'o', 'p', '.', 'e', 'x', 'a', 'm', 'p', 'l', 'e', '/', 'g', '0', '0', '8', '4', '1', '/', 'l', 'a', 'w', 's', '.', 'F', 'n', 'E', 'x', 'a', 'c', 't', 'S', 'o', 'u', 'r', 'c', 'e', 's', 'O', 'f'], ['l', 'o', 'o', 'p', '.', 'e', 'x', 'a', 'm', 'p', 'l', 'e', '/', 'g', '0', '0', '8', '4', '1', '/', 'l', 'a', 'w', 's', '.', 'F', 'n', 'E', 'x', 'a', 'c', 't', 'S', 't', 'a', 't', 'e', 'O', 'f', 'T', 'r', 'e', 'e'], ['l', 'o', 'o', 'p', '.', 'e', 'x', 'a', 'm', 'p', 'l', 'e', '/', 'g', '0', '0', '8', '4', '1', '/', 'l', 'a', 'w', 's', '.', 'F', 'n', 'E', 'x', 'a', 'c', 't', 'I', 's', 'P', 'a', 'r', 'k', 'i', 'n', 'g'], ['l', 'o', 'o', 'p', '.', 'e', 'x', 'a', 'm', 'p', 'l', 'e', '/', 'g', '0', '0', '8', '4', '1', '/', 'l', 'a', 'w', 's', '.', 'F', 'n', 'E', 'x', 'a', 'c', 't', 'T', 'o', 'p', 'p', 'l', 'e'], ['l', 'o', 'o', 'p', '.', 'e', 'x', 'a', 'm', 'p', 'l', 'e', '/', 'g', '0', '0', '8', '4', '1', '/', 'l', 'a', 'w', 's', '.', 'F', 'n', 'E', 'x', 'a', 'c', 't', 'F', 'l', 'i', 'p', 'S', 'o', 'u', 'r', 'c', 'e'], ['l', 'o', 'o', 'p', '.', 'e', 'x', 'a', 'm', 'p', 'l', 'e', '/', 'g', '0', '0', '8', '4', '1', '/', 'l', 'a', 'w', 's', '.', 'F', 'n', 'E', 'x', 'a', 'c', 't', 'C', 'o', 'u', 'n', 't', 'A', 'c', 'y', 'c', 'l', 'i', 'c'], ['l', 'o', 'o', 'p', '.', 'e', 'x', 'a', 'm', 'p', 'l', 'e', '/', 'g', '0', '0', '8', '4', '1', '/', 'l', 'a', 'w', 's', '.', 'F', 'n', 'E', 'x', 'a', 'c', 't', 'A', 'v', 'a', 'l', 'a', 'n', 'c', 'h', 'e', 'S', 'i', 'z', 'e'], ['l', 'o', 'o', 'p', '.', 'e', 'x', 'a', 'm', 'p', 'l', 'e', '/', 'g', '0', '0', '8', '4', '1', '/', 'l', 'a', 'w', 's', '.', 'F', 'n', 'E', 'x', 'a', 'c', 't', 'S', 't', 'a', 'b', 'i', 'l', 'i', 'z', 'e'], ['l', 'o', 'o', 'p', '.', 'e', 'x', 'a', 'm', 'p', 'l', 'e', '/', 'g', '0', '0', '8', '4', '1', '/', 'l', 'a', 'w', 's', '.', 'F', 'n', 'E', 'x', 'a', 'c', 't', 'O', 'r', 'i', 'e', 'n', 't', 'B', 'y', 'B', 'u', 'r', 'n', 'i', 'n', 'g'], ['l', 'o', 'o', 'p', '.', 'e', 'x', 'a', 'm', 'p', 'l', 'e', '/', 'g', '0', '0', '8', '4', '1', '/', 'l', 'a', 'w', 's', '.', 'F', 'n', 'E', 'x', 'a', 'c', 't', 'S', 'u', 'm', 'O', 'f', 'P', 'i', 'l', 'e', 's'], ['l', 'o', 'o', 'p', '.', 'e', 'x', 'a', 'm', 'p', 'l', 'e', '/', 'g', '0', '0', '8', '4', '1', '/', 'l', 'a', 'w', 's', '.', 'F', 'n', 'E', 'x', 'a', 'c', 't', 'I', 's', 'R', 'e', 'c', 'u', 'r', 'r', 'e', 'n', 't'], ['l', 'o', 'o', 'p', '.', 'e', 'x', 'a', 'm', 'p', 'l', 'e', '/', 'g', '0', '0', '8', '4', '1', '/', 'l', 'a', 'w', 's', '.', 'F', 'n', 'E', 'x', 'a', 'c', 't', 'D', 'r', 'o', 'p', 'C', 'h', 'i', 'p'], ['l', 'o', 'o', 'p', '.', 'e', 'x', 'a', 'm', 'p', 'l', 'e', '/', 'g', '0', '0', '8', '4', '1', '/', 'l', 'a', 'w', 's', '.', 'F', 'n', 'E', 'x', 'a', 'c', 't', 'L', 'e', 'v', 'e', 'l', 'O', 'f'], ['l', 'o', 'o', 'p', '.', 'e', 'x', 'a', 'm', 'p', 'l', 'e', '/', 'g', '0', '0', '8', '4', '1', '/', 'l', 'a', 'w', 's', '.', 'F', 'n', 'E', 'x', 'a', 'c', 't', 'P', 'i', 'l', 'e', 'O', 'f', 'P', 'a', 'r', 'k', 'i', 'n', 'g'], ['l', 'o', 'o', 'p', '.', 'e', 'x', 'a', 'm', 'p', 'l', 'e', '/', 'g', '0', '0', '8', '4', '1', '/', 'l', 'a', 'w', 's', '.', 'F', 'n', 'E', 'x', 'a', 'c', 't', 'O', 'r', 'd', 'e', 'r', 'O', 'f'], ['l', 'o', 'o', 'p', '.', 'e', 'x', 'a', 'm', 'p', 'l', 'e', '/', 'g', '0', '0', '8', '4', '1', '/', 'l', 'a', 'w', 's', '.', 'F', 'n', 'E', 'x', 'a', 'c', 't', 'S', 'u', 'm', 'O', 'f', 'C', 'l', 'a', 's', 's', 'e', 's'], ['l', 'o', 'o', 'p', '.', 'e', 'x', 'a', 'm', 'p', 'l', 'e', '/', 'g', '0', '0', '8', '4', '1', '/', 'l', 'a', 'w', 's', '.', 'F', 'n', 'E', 'x', 'a', 'c', 't', 'I', 'n', 'v', 'e', 'r', 's', 'e', 'C', 'l', 'a', 's', 's'], ['l', 'o', 'o', 'p', '.', 'e', 'x', 'a', 'm', 'p', 'l', 'e', '/', 'g', '0', '0', '8', '4', '1', '/', 'l', 'a', 'w', 's', '.', 'F', 'n', 'E', 'x', 'a', 'c', 't', 'I', 'd', 'e', 'n', 't', 'i', 't', 'y', 'P', 'i', 'l', 'e'], ['l', 'o', 'o', 'p', '.', 'e', 'x', 'a', 'm', 'p', 'l', 'e', '/', 'g', '0', '0', '8', '4', '1', '/', 'l', 'a', 'w', 's', '.', 'F', 'n', 'E', 'x', 'a', 'c', 't', 'P', 'a', 'r', 'k', 'i', 'n', 'g', 'O', 'f', 'P', 'i', 'l', 'e'], ['l', 'o', 'o', 'p', '.', 'e', 'x', 'a', 'm', 'p', 'l', 'e', '/', 'g', '0', '0', '8', '4', '1', '/', 'l', 'a', 'w', 's', '.', 'F', 'n', 'E', 'x', 'a', 'c', 't', 'T', 'i', 'm', 'e', 's', 'C', 'l', 'a', 's', 's'], ['l', 'o', 'o', 'p', '.', 'e', 'x', 'a', 'm', 'p', 'l', 'e', '/', 'g', '0', '0', '8', '4', '1', '/', 'l', 'a', 'w', 's', '.', 'F', 'n', 'E', 'x', 'a', 'c', 't', 'R', 'e', 'c', 'u', 'r', 'r', 'e', 'n', 't', 'O', 'f'], ['l', 'o', 'o', 'p', '.', 'e', 'x', 'a', 'm', 'p', 'l', 'e', '/', 'g', '0', '0', '8', '4', '1', '/', 'l', 'a', 'w', 's', '.', 'F', 'n', 'E', 'x', 'a', 'c', 't', 'I', 'n', 'v', 'e', 'r', 's', 'e', 'P', 'i', 'l', 'e']] := (congrArg (fun x => behindMainWord (wordsSigns x)) iniS).trans (by kernel_rfl)
theorem mk_cut {P : Program} {r : List (List Char)} (h : behindMainWord (wordsSigns P.initOrder.toList) = ['c', 'u', 't'] :: r) : P.make = some .cut := by
  unfold Program.make
  rw [h]
  rfl
theorem lf_cut {P : Program} {r : List (List Char)} (h : behindMainWord (wordsSigns P.initOrder.toList) = ['c', 'u', 't'] :: r) (k : (stripLifts liftWords (['c', 'u', 't'] :: r)).1 = []) : P.liftsFinal = false := by
  unfold Program.liftsFinal Program.headLifts
  rw [h]
  simp [k]
theorem en_cut {P : Program} {r : List (List Char)} (h : behindMainWord (wordsSigns P.initOrder.toList) = ['c', 'u', 't'] :: r) (k1 : (stripLifts liftWords (['c', 'u', 't'] :: r)).1 = []) (k2 : ((stripLifts liftWords (['c', 'u', 't'] :: r)).2.head? == some "cut".toList) = true) (h1 : P.laysLater = false) (h2 : P.bearsReflect = false) (h3 : P.doorFits [] = true) : P.mayEnter = true := by
  unfold Program.mayEnter
  rw [h]
  simp only [k1, k2, h1, h2, h3]
  simp
theorem make : Try.prog.make = some .cut := mk_cut iniW
theorem lifted : Try.prog.liftsFinal = false := lf_cut iniW (by kernel_rfl)
theorem enter : Try.prog.mayEnter = true := en_cut iniW (by kernel_rfl) (by kernel_rfl) (by kernel_rfl) (by kernel_rfl) (by kernel_rfl)
end Go.Proofs.Ytjecgolakaiddaa.Cf
end

