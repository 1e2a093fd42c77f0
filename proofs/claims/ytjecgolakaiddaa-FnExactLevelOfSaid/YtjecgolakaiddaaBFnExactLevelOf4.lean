/- A part of the proof of FnExactLevelOf. -/
import Derived.Test.YtjecgolakaiddaaBFnExactLevelOf3
import Derived.Test.YtjecgolakaiddaaBFnExactLevelOf0
import Derived.Test.YtjecgolakaiddaaBFnExactLevelOf2
import Derived.Test.YtjecgolakaiddaaBFnExactLevelOf1
import Derived.Deep.Slices
import Derived.Lib.SmallJoins
import Derived.ChangeSame
import Derived.Test.YtjecgolakaiddaaRows
import Derived.JoinedOf
import Derived.KernelRfl
section
namespace Go.Proofs.Ytjecgolakaiddaa.P
open Go.RowKit Go.Proofs.YtjecgolakaiddaaW.PrintWords Go.Proofs.YtjecgolakaiddaaW.PrintLast Go.Proofs.YtjecgolakaiddaaW.PrintMore
attribute [local go_sem] max2_int min2_int max_two min_two max_three min_three max_four min_four
set_option linter.unusedVariables false
set_option linter.unusedSimpArgs false
mutual
def impl_NextRotor.j0 : Nat → Int → Int → Bool → Int → List (S70) → Option (Int)
  | 0, _, _, _, _, _ => none
  | k + 1, x1, x2, x19, x102000, x102001 => if x19 = true then (some (-1)) else (if (x102001.length : Int) = 0 then (none) else (impl_NextRotor.l0 k x1 (x102001.length : Int) (Int.tmod (wrap64 (x2 + 1)) (x102001.length : Int)) x102000 x102001))
def impl_NextRotor.l0 : Nat → Int → Int → Int → Int → List (S70) → Option (Int)
  | 0, _, _, _, _, _ => none
  | k + 1, x1, x7, x8, x102000, x102001 => (impl_isAt.f x102000 x102001 x8 x1).bind fun t104 => (if t104 = true then (some x8) else (if x7 = 0 then (none) else (impl_NextRotor.l0 k x1 x7 (Int.tmod (wrap64 (x8 + 1)) x7) x102000 x102001)))
end
def impl_NextRotor.f (k : Nat) (a0_0 : Int) (l0_1 : List (S70)) (a1 : Int) (a2 : Int) : Option (Int) := (impl_isVertex.f a0_0 l0_1 a1).bind fun t102 => (if t102 = true then ((impl_isAt.f a0_0 l0_1 a2 a1).bind fun t103 => (impl_NextRotor.j0 k a1 a2 (!t103) a0_0 l0_1)) else (impl_NextRotor.j0 k a1 a2 true a0_0 l0_1))
theorem impl_NextRotor.mono_l : ∀ k, (∀ y0 y1 y2 y3 y4, LeO (impl_NextRotor.j0 k y0 y1 y2 y3 y4) (impl_NextRotor.j0 (k + 1) y0 y1 y2 y3 y4)) ∧ (∀ y0 y1 y2 y3 y4, LeO (impl_NextRotor.l0 k y0 y1 y2 y3 y4) (impl_NextRotor.l0 (k + 1) y0 y1 y2 y3 y4))
  | 0 => ⟨fun _ _ _ _ _ r h => by simp [impl_NextRotor.j0] at h, fun _ _ _ _ _ r h => by simp [impl_NextRotor.l0] at h⟩
  | k + 1 => by
    obtain ⟨ih0, ih1⟩ := impl_NextRotor.mono_l k
    refine ⟨?_, ?_⟩
    · intro y0 y1 y2 y3 y4
      unfold impl_NextRotor.j0
      repeat' first
      | (with_reducible exact ih0 _ _ _ _ _)
      | (with_reducible exact ih1 _ _ _ _ _)
      | (with_reducible exact LeO.refl _)
      | (with_reducible exact LeO.none _)
      | (with_reducible refine LeO.ite ?_ ?_)
      | (with_reducible refine LeO.bind ?_ (fun _ => ?_))
      | exact ih0 _ _ _ _ _
      | exact ih1 _ _ _ _ _
      | exact LeO.none _
      | refine LeO.ite ?_ ?_
      | refine LeO.bind ?_ (fun _ => ?_)
    · intro y0 y1 y2 y3 y4
      unfold impl_NextRotor.l0
      repeat' first
      | (with_reducible exact ih0 _ _ _ _ _)
      | (with_reducible exact ih1 _ _ _ _ _)
      | (with_reducible exact LeO.refl _)
      | (with_reducible exact LeO.none _)
      | (with_reducible refine LeO.ite ?_ ?_)
      | (with_reducible refine LeO.bind ?_ (fun _ => ?_))
      | exact ih0 _ _ _ _ _
      | exact ih1 _ _ _ _ _
      | exact LeO.none _
      | refine LeO.ite ?_ ?_
      | refine LeO.bind ?_ (fun _ => ?_)
theorem impl_NextRotor.mono : ∀ a0 a1 a2 a3 k, LeO (impl_NextRotor.f k a0 a1 a2 a3) (impl_NextRotor.f (k + 1) a0 a1 a2 a3) := by
  intro a0 a1 a2 a3 k; obtain ⟨ih0, ih1⟩ := impl_NextRotor.mono_l k; unfold impl_NextRotor.f
  repeat' first
      | (with_reducible exact ih0 _ _ _ _ _)
      | (with_reducible exact ih1 _ _ _ _ _)
      | (with_reducible exact LeO.refl _)
      | (with_reducible exact LeO.none _)
      | (with_reducible refine LeO.ite ?_ ?_)
      | (with_reducible refine LeO.bind ?_ (fun _ => ?_))
      | exact ih0 _ _ _ _ _
      | exact ih1 _ _ _ _ _
      | exact LeO.none _
      | refine LeO.ite ?_ ?_
      | refine LeO.bind ?_ (fun _ => ?_)
end Go.Proofs.Ytjecgolakaiddaa.P
end

section
namespace Go.Proofs.Ytjecgolakaiddaa.P
open Go.RowKit Go.Proofs.YtjecgolakaiddaaW.PrintWords Go.Proofs.YtjecgolakaiddaaW.PrintLast Go.Proofs.YtjecgolakaiddaaW.PrintMore
attribute [local go_sem] max2_int min2_int max_two min_two max_three min_three max_four min_four
set_option linter.unusedVariables false
set_option linter.unusedSimpArgs false
def spec_l15Other.f (a0_0 : Int) (a0_1 : Int) (a1 : Int) : Option (Int) := some (wrap64 ((wrap64 (a0_0 + a0_1)) - a1))
end Go.Proofs.Ytjecgolakaiddaa.P
end

section
namespace Go.Proofs.Ytjecgolakaiddaa.P
open Go.RowKit Go.Proofs.YtjecgolakaiddaaW.PrintWords Go.Proofs.YtjecgolakaiddaaW.PrintLast Go.Proofs.YtjecgolakaiddaaW.PrintMore
attribute [local go_sem] max2_int min2_int max_two min_two max_three min_three max_four min_four
set_option linter.unusedVariables false
set_option linter.unusedSimpArgs false
def spec_StepWalker.j0 : Nat → List Int → Int → Bool → Int → List (S70) → Option (List Int × Int × Bool)
  | 0, _, _, _, _, _ => none
  | k + 1, x1, x3, x29, x102000, x102001 => if x29 = true then (some (([] : List Int), 0, false)) else ((some (([] : List Int) : List Int)).bind fun y104 => (if y104.length + x1.length < 17592186044416 then ((some (y104 ++ x1 : List Int)).bind fun y107 => (if 0 ≤ x3 then (if x3 < (x1.length : Int) then ((spec_l15Next.f k x102000 x102001 x3 (rd x1 x3)).bind fun t111 => (if x3 < (y107.length : Int) then ((some (y107.set (x3 : Int).toNat t111 : List Int)).bind fun y112 => (if 0 ≤ (rd y112 x3) then (if (rd y112 x3) < (x102001.length : Int) then ((spec_l15Other.f ((rd_T70 x102001 (rd y112 x3)).f0) ((rd_T70 x102001 (rd y112 x3)).f1) x3).bind fun t115 => (some (y112, t115, true))) else (none)) else (none))) else (none))) else (none)) else (none))) else (none)))
def spec_StepWalker.f (k : Nat) (a0_0 : Int) (l0_1 : List (S70)) (l1 : List Int) (a2 : Int) (a3 : Int) : Option (List Int × Int × Bool) := (spec_RotorsOk.f k a0_0 l0_1 l1 a2).bind fun t102 => (if t102 = true then (if a3 = a2 then (spec_StepWalker.j0 k l1 a3 true a0_0 l0_1) else ((spec_l01In.f a3 0 (wrap64 (a0_0 - 1))).bind fun t103 => (spec_StepWalker.j0 k l1 a3 (!t103) a0_0 l0_1))) else (spec_StepWalker.j0 k l1 a3 true a0_0 l0_1))
theorem spec_StepWalker.mono_l : ∀ k, (∀ y0 y1 y2 y3 y4, LeO (spec_StepWalker.j0 k y0 y1 y2 y3 y4) (spec_StepWalker.j0 (k + 1) y0 y1 y2 y3 y4))
  | 0 => fun _ _ _ _ _ r h => by simp [spec_StepWalker.j0] at h
  | k + 1 => by
    have ih0 := spec_StepWalker.mono_l k
    · intro y0 y1 y2 y3 y4
      unfold spec_StepWalker.j0
      repeat' first
      | (with_reducible exact ih0 _ _ _ _ _)
      | (with_reducible exact spec_RotorsOk.mono _ _ _ _ _)
      | (with_reducible exact spec_l15Next.mono _ _ _ _ _)
      | (with_reducible exact LeO.refl _)
      | (with_reducible exact LeO.none _)
      | (with_reducible refine LeO.ite ?_ ?_)
      | (with_reducible refine LeO.bind ?_ (fun _ => ?_))
      | exact ih0 _ _ _ _ _
      | exact spec_RotorsOk.mono _ _ _ _ _
      | exact spec_l15Next.mono _ _ _ _ _
      | exact LeO.none _
      | refine LeO.ite ?_ ?_
      | refine LeO.bind ?_ (fun _ => ?_)
theorem spec_StepWalker.mono : ∀ a0 a1 a2 a3 a4 k, LeO (spec_StepWalker.f k a0 a1 a2 a3 a4) (spec_StepWalker.f (k + 1) a0 a1 a2 a3 a4) := by
  intro a0 a1 a2 a3 a4 k; have ih0 := spec_StepWalker.mono_l k; unfold spec_StepWalker.f
  repeat' first
      | (with_reducible exact ih0 _ _ _ _ _)
      | (with_reducible exact spec_RotorsOk.mono _ _ _ _ _)
      | (with_reducible exact spec_l15Next.mono _ _ _ _ _)
      | (with_reducible exact LeO.refl _)
      | (with_reducible exact LeO.none _)
      | (with_reducible refine LeO.ite ?_ ?_)
      | (with_reducible refine LeO.bind ?_ (fun _ => ?_))
      | exact ih0 _ _ _ _ _
      | exact spec_RotorsOk.mono _ _ _ _ _
      | exact spec_l15Next.mono _ _ _ _ _
      | exact LeO.none _
      | refine LeO.ite ?_ ?_
      | refine LeO.bind ?_ (fun _ => ?_)
end Go.Proofs.Ytjecgolakaiddaa.P
end

section
namespace Go.Proofs.Ytjecgolakaiddaa.P
open Go.RowKit Go.Proofs.YtjecgolakaiddaaW.PrintWords Go.Proofs.YtjecgolakaiddaaW.PrintLast Go.Proofs.YtjecgolakaiddaaW.PrintMore
attribute [local go_sem] max2_int min2_int max_two min_two max_three min_three max_four min_four
set_option linter.unusedVariables false
set_option linter.unusedSimpArgs false
def impl_across.f (a0_0 : Int) (l0_1 : List (S70)) (a1 : Int) (a2 : Int) : Option (Int) := if 0 ≤ a1 then (if a1 < (l0_1.length : Int) then (some (wrap64 ((wrap64 (((rd_T70 l0_1 a1).f0) + ((rd_T70 l0_1 a1).f1))) - a2))) else (none)) else (none)
end Go.Proofs.Ytjecgolakaiddaa.P
end

section
namespace Go.Proofs.Ytjecgolakaiddaa.P
open Go.RowKit Go.Proofs.YtjecgolakaiddaaW.PrintWords Go.Proofs.YtjecgolakaiddaaW.PrintLast Go.Proofs.YtjecgolakaiddaaW.PrintMore
attribute [local go_sem] max2_int min2_int max_two min_two max_three min_three max_four min_four
set_option linter.unusedVariables false
set_option linter.unusedSimpArgs false
def impl_StepWalker.j0 : Nat → List Int → Int → Bool → Int → List (S70) → Option (List Int × Int × Bool)
  | 0, _, _, _, _, _ => none
  | k + 1, x1, x3, x29, x102000, x102001 => if x29 = true then (some (([] : List Int), 0, false)) else ((impl_copyInts.f x1).bind fun t104 => (if 0 ≤ x3 then (if x3 < (x1.length : Int) then ((impl_NextRotor.f k x102000 x102001 x3 (rd x1 x3)).bind fun t108 => (if x3 < (t104.length : Int) then ((some (t104.set (x3 : Int).toNat t108 : List Int)).bind fun y109 => ((impl_across.f x102000 x102001 (rd y109 x3) x3).bind fun t111 => (some (y109, t111, true)))) else (none))) else (none)) else (none)))
def impl_StepWalker.f (k : Nat) (a0_0 : Int) (l0_1 : List (S70)) (l1 : List Int) (a2 : Int) (a3 : Int) : Option (List Int × Int × Bool) := (impl_RotorsOk.f k a0_0 l0_1 l1 a2).bind fun t102 => (if t102 = true then (if a3 = a2 then (impl_StepWalker.j0 k l1 a3 true a0_0 l0_1) else ((impl_within.f a3 0 (wrap64 (a0_0 - 1))).bind fun t103 => (impl_StepWalker.j0 k l1 a3 (!t103) a0_0 l0_1))) else (impl_StepWalker.j0 k l1 a3 true a0_0 l0_1))
theorem impl_StepWalker.mono_l : ∀ k, (∀ y0 y1 y2 y3 y4, LeO (impl_StepWalker.j0 k y0 y1 y2 y3 y4) (impl_StepWalker.j0 (k + 1) y0 y1 y2 y3 y4))
  | 0 => fun _ _ _ _ _ r h => by simp [impl_StepWalker.j0] at h
  | k + 1 => by
    have ih0 := impl_StepWalker.mono_l k
    · intro y0 y1 y2 y3 y4
      unfold impl_StepWalker.j0
      repeat' first
      | (with_reducible exact ih0 _ _ _ _ _)
      | (with_reducible exact impl_NextRotor.mono _ _ _ _ _)
      | (with_reducible exact impl_RotorsOk.mono _ _ _ _ _)
      | (with_reducible exact LeO.refl _)
      | (with_reducible exact LeO.none _)
      | (with_reducible refine LeO.ite ?_ ?_)
      | (with_reducible refine LeO.bind ?_ (fun _ => ?_))
      | exact ih0 _ _ _ _ _
      | exact impl_NextRotor.mono _ _ _ _ _
      | exact impl_RotorsOk.mono _ _ _ _ _
      | exact LeO.none _
      | refine LeO.ite ?_ ?_
      | refine LeO.bind ?_ (fun _ => ?_)
theorem impl_StepWalker.mono : ∀ a0 a1 a2 a3 a4 k, LeO (impl_StepWalker.f k a0 a1 a2 a3 a4) (impl_StepWalker.f (k + 1) a0 a1 a2 a3 a4) := by
  intro a0 a1 a2 a3 a4 k; have ih0 := impl_StepWalker.mono_l k; unfold impl_StepWalker.f
  repeat' first
      | (with_reducible exact ih0 _ _ _ _ _)
      | (with_reducible exact impl_NextRotor.mono _ _ _ _ _)
      | (with_reducible exact impl_RotorsOk.mono _ _ _ _ _)
      | (with_reducible exact LeO.refl _)
      | (with_reducible exact LeO.none _)
      | (with_reducible refine LeO.ite ?_ ?_)
      | (with_reducible refine LeO.bind ?_ (fun _ => ?_))
      | exact ih0 _ _ _ _ _
      | exact impl_NextRotor.mono _ _ _ _ _
      | exact impl_RotorsOk.mono _ _ _ _ _
      | exact LeO.none _
      | refine LeO.ite ?_ ?_
      | refine LeO.bind ?_ (fun _ => ?_)
end Go.Proofs.Ytjecgolakaiddaa.P
end

section
namespace Go.Proofs.Ytjecgolakaiddaa.P
open Go.RowKit Go.Proofs.YtjecgolakaiddaaW.PrintWords Go.Proofs.YtjecgolakaiddaaW.PrintLast Go.Proofs.YtjecgolakaiddaaW.PrintMore
attribute [local go_sem] max2_int min2_int max_two min_two max_three min_three max_four min_four
set_option linter.unusedVariables false
set_option linter.unusedSimpArgs false
def spec_l15Walk.l0 : Nat → Int → Int → List Int → Int → Int → List (S70) → Option (List Int × Int × Bool)
  | 0, _, _, _, _, _, _ => none
  | k + 1, x2, x3, x11, x12, x102000, x102001 => if x12 ≤ 2000 then (if x3 = x2 then (some (x11, x12, true)) else (if 0 ≤ x3 then (if x3 < (x11.length : Int) then ((spec_l15Next.f k x102000 x102001 x3 (rd x11 x3)).bind fun t109 => ((some (x11.set (x3 : Int).toNat t109 : List Int)).bind fun y110 => (if 0 ≤ (rd y110 x3) then (if (rd y110 x3) < (x102001.length : Int) then ((spec_l15Other.f ((rd_T70 x102001 (rd y110 x3)).f0) ((rd_T70 x102001 (rd y110 x3)).f1) x3).bind fun t113 => (spec_l15Walk.l0 k x2 t113 y110 (wrap64 (x12 + 1)) x102000 x102001)) else (none)) else (none)))) else (none)) else (none))) else (some (([] : List Int), 0, false))
def spec_l15Walk.f (k : Nat) (a0_0 : Int) (l0_1 : List (S70)) (l1 : List Int) (a2 : Int) (a3 : Int) : Option (List Int × Int × Bool) := (some (([] : List Int) : List Int)).bind fun y102 => (if y102.length + l1.length < 17592186044416 then (spec_l15Walk.l0 k a2 a3 (y102 ++ l1) 0 a0_0 l0_1) else (none))
theorem spec_l15Walk.mono_l : ∀ k, (∀ y0 y1 y2 y3 y4 y5, LeO (spec_l15Walk.l0 k y0 y1 y2 y3 y4 y5) (spec_l15Walk.l0 (k + 1) y0 y1 y2 y3 y4 y5))
  | 0 => fun _ _ _ _ _ _ r h => by simp [spec_l15Walk.l0] at h
  | k + 1 => by
    have ih0 := spec_l15Walk.mono_l k
    · intro y0 y1 y2 y3 y4 y5
      unfold spec_l15Walk.l0
      repeat' first
      | (with_reducible exact ih0 _ _ _ _ _ _)
      | (with_reducible exact spec_l15Next.mono _ _ _ _ _)
      | (with_reducible exact LeO.refl _)
      | (with_reducible exact LeO.none _)
      | (with_reducible refine LeO.ite ?_ ?_)
      | (with_reducible refine LeO.bind ?_ (fun _ => ?_))
      | exact ih0 _ _ _ _ _ _
      | exact spec_l15Next.mono _ _ _ _ _
      | exact LeO.none _
      | refine LeO.ite ?_ ?_
      | refine LeO.bind ?_ (fun _ => ?_)
theorem spec_l15Walk.mono : ∀ a0 a1 a2 a3 a4 k, LeO (spec_l15Walk.f k a0 a1 a2 a3 a4) (spec_l15Walk.f (k + 1) a0 a1 a2 a3 a4) := by
  intro a0 a1 a2 a3 a4 k; have ih0 := spec_l15Walk.mono_l k; unfold spec_l15Walk.f
  repeat' first
      | (with_reducible exact ih0 _ _ _ _ _ _)
      | (with_reducible exact spec_l15Next.mono _ _ _ _ _)
      | (with_reducible exact LeO.refl _)
      | (with_reducible exact LeO.none _)
      | (with_reducible refine LeO.ite ?_ ?_)
      | (with_reducible refine LeO.bind ?_ (fun _ => ?_))
      | exact ih0 _ _ _ _ _ _
      | exact spec_l15Next.mono _ _ _ _ _
      | exact LeO.none _
      | refine LeO.ite ?_ ?_
      | refine LeO.bind ?_ (fun _ => ?_)
end Go.Proofs.Ytjecgolakaiddaa.P
end

section
namespace Go.Proofs.Ytjecgolakaiddaa.P
open Go.RowKit Go.Proofs.YtjecgolakaiddaaW.PrintWords Go.Proofs.YtjecgolakaiddaaW.PrintLast Go.Proofs.YtjecgolakaiddaaW.PrintMore
attribute [local go_sem] max2_int min2_int max_two min_two max_three min_three max_four min_four
set_option linter.unusedVariables false
set_option linter.unusedSimpArgs false
def spec_WalkToSink.f (k : Nat) (a0_0 : Int) (l0_1 : List (S70)) (l1 : List Int) (a2 : Int) (a3 : Int) : Option (List Int × Int × Bool) := (spec_RotorsOk.f k a0_0 l0_1 l1 a2).bind fun t102 => (if t102 = true then ((spec_l01In.f a3 0 (wrap64 (a0_0 - 1))).bind fun t103 => (if t103 = true then ((spec_l15Walk.f k a0_0 l0_1 l1 a2 a3).bind fun bt104 => (some (bt104.1, bt104.2.1, bt104.2.2))) else (some (([] : List Int), 0, false)))) else (some (([] : List Int), 0, false)))
theorem spec_WalkToSink.mono : ∀ a0 a1 a2 a3 a4 k, LeO (spec_WalkToSink.f k a0 a1 a2 a3 a4) (spec_WalkToSink.f (k + 1) a0 a1 a2 a3 a4) := by
  intro a0 a1 a2 a3 a4 k; unfold spec_WalkToSink.f
  repeat' first
      | (with_reducible exact spec_RotorsOk.mono _ _ _ _ _)
      | (with_reducible exact spec_l15Walk.mono _ _ _ _ _ _)
      | (with_reducible exact LeO.refl _)
      | (with_reducible exact LeO.none _)
      | (with_reducible refine LeO.ite ?_ ?_)
      | (with_reducible refine LeO.bind ?_ (fun _ => ?_))
      | exact spec_RotorsOk.mono _ _ _ _ _
      | exact spec_l15Walk.mono _ _ _ _ _ _
      | exact LeO.none _
      | refine LeO.ite ?_ ?_
      | refine LeO.bind ?_ (fun _ => ?_)
end Go.Proofs.Ytjecgolakaiddaa.P
end

section
namespace Go.Proofs.Ytjecgolakaiddaa.P
open Go.RowKit Go.Proofs.YtjecgolakaiddaaW.PrintWords Go.Proofs.YtjecgolakaiddaaW.PrintLast Go.Proofs.YtjecgolakaiddaaW.PrintMore
attribute [local go_sem] max2_int min2_int max_two min_two max_three min_three max_four min_four
set_option linter.unusedVariables false
set_option linter.unusedSimpArgs false
mutual
def impl_WalkToSink.j0 : Nat → List Int → Int → Int → Bool → Int → List (S70) → Option (List Int × Int × Bool)
  | 0, _, _, _, _, _, _ => none
  | k + 1, x1, x2, x3, x25, x102000, x102001 => if x25 = true then (some (([] : List Int), 0, false)) else ((impl_copyInts.f x1).bind fun t104 => (impl_WalkToSink.l0 k x2 x3 t104 0 x102000 x102001))
def impl_WalkToSink.l0 : Nat → Int → Int → List Int → Int → Int → List (S70) → Option (List Int × Int × Bool)
  | 0, _, _, _, _, _, _ => none
  | k + 1, x2, x3, x11, x12, x102000, x102001 => if x3 = x2 then (some (x11, x12, true)) else (if x12 = 2000 then (some (([] : List Int), 0, false)) else (if 0 ≤ x3 then (if x3 < (x11.length : Int) then ((impl_NextRotor.f k x102000 x102001 x3 (rd x11 x3)).bind fun t108 => ((some (x11.set (x3 : Int).toNat t108 : List Int)).bind fun y109 => ((impl_across.f x102000 x102001 (rd y109 x3) x3).bind fun t111 => (impl_WalkToSink.l0 k x2 t111 y109 (wrap64 (x12 + 1)) x102000 x102001)))) else (none)) else (none)))
end
def impl_WalkToSink.f (k : Nat) (a0_0 : Int) (l0_1 : List (S70)) (l1 : List Int) (a2 : Int) (a3 : Int) : Option (List Int × Int × Bool) := (impl_RotorsOk.f k a0_0 l0_1 l1 a2).bind fun t102 => (if t102 = true then ((impl_within.f a3 0 (wrap64 (a0_0 - 1))).bind fun t103 => (impl_WalkToSink.j0 k l1 a2 a3 (!t103) a0_0 l0_1)) else (impl_WalkToSink.j0 k l1 a2 a3 true a0_0 l0_1))
theorem impl_WalkToSink.mono_l : ∀ k, (∀ y0 y1 y2 y3 y4 y5, LeO (impl_WalkToSink.j0 k y0 y1 y2 y3 y4 y5) (impl_WalkToSink.j0 (k + 1) y0 y1 y2 y3 y4 y5)) ∧ (∀ y0 y1 y2 y3 y4 y5, LeO (impl_WalkToSink.l0 k y0 y1 y2 y3 y4 y5) (impl_WalkToSink.l0 (k + 1) y0 y1 y2 y3 y4 y5))
  | 0 => ⟨fun _ _ _ _ _ _ r h => by simp [impl_WalkToSink.j0] at h, fun _ _ _ _ _ _ r h => by simp [impl_WalkToSink.l0] at h⟩
  | k + 1 => by
    obtain ⟨ih0, ih1⟩ := impl_WalkToSink.mono_l k
    refine ⟨?_, ?_⟩
    · intro y0 y1 y2 y3 y4 y5
      unfold impl_WalkToSink.j0
      repeat' first
      | (with_reducible exact ih0 _ _ _ _ _ _)
      | (with_reducible exact ih1 _ _ _ _ _ _)
      | (with_reducible exact impl_NextRotor.mono _ _ _ _ _)
      | (with_reducible exact impl_RotorsOk.mono _ _ _ _ _)
      | (with_reducible exact LeO.refl _)
      | (with_reducible exact LeO.none _)
      | (with_reducible refine LeO.ite ?_ ?_)
      | (with_reducible refine LeO.bind ?_ (fun _ => ?_))
      | exact ih0 _ _ _ _ _ _
      | exact ih1 _ _ _ _ _ _
      | exact impl_NextRotor.mono _ _ _ _ _
      | exact impl_RotorsOk.mono _ _ _ _ _
      | exact LeO.none _
      | refine LeO.ite ?_ ?_
      | refine LeO.bind ?_ (fun _ => ?_)
    · intro y0 y1 y2 y3 y4 y5
      unfold impl_WalkToSink.l0
      repeat' first
      | (with_reducible exact ih0 _ _ _ _ _ _)
      | (with_reducible exact ih1 _ _ _ _ _ _)
      | (with_reducible exact impl_NextRotor.mono _ _ _ _ _)
      | (with_reducible exact impl_RotorsOk.mono _ _ _ _ _)
      | (with_reducible exact LeO.refl _)
      | (with_reducible exact LeO.none _)
      | (with_reducible refine LeO.ite ?_ ?_)
      | (with_reducible refine LeO.bind ?_ (fun _ => ?_))
      | exact ih0 _ _ _ _ _ _
      | exact ih1 _ _ _ _ _ _
      | exact impl_NextRotor.mono _ _ _ _ _
      | exact impl_RotorsOk.mono _ _ _ _ _
      | exact LeO.none _
      | refine LeO.ite ?_ ?_
      | refine LeO.bind ?_ (fun _ => ?_)
theorem impl_WalkToSink.mono : ∀ a0 a1 a2 a3 a4 k, LeO (impl_WalkToSink.f k a0 a1 a2 a3 a4) (impl_WalkToSink.f (k + 1) a0 a1 a2 a3 a4) := by
  intro a0 a1 a2 a3 a4 k; obtain ⟨ih0, ih1⟩ := impl_WalkToSink.mono_l k; unfold impl_WalkToSink.f
  repeat' first
      | (with_reducible exact ih0 _ _ _ _ _ _)
      | (with_reducible exact ih1 _ _ _ _ _ _)
      | (with_reducible exact impl_NextRotor.mono _ _ _ _ _)
      | (with_reducible exact impl_RotorsOk.mono _ _ _ _ _)
      | (with_reducible exact LeO.refl _)
      | (with_reducible exact LeO.none _)
      | (with_reducible refine LeO.ite ?_ ?_)
      | (with_reducible refine LeO.bind ?_ (fun _ => ?_))
      | exact ih0 _ _ _ _ _ _
      | exact ih1 _ _ _ _ _ _
      | exact impl_NextRotor.mono _ _ _ _ _
      | exact impl_RotorsOk.mono _ _ _ _ _
      | exact LeO.none _
      | refine LeO.ite ?_ ?_
      | refine LeO.bind ?_ (fun _ => ?_)
end Go.Proofs.Ytjecgolakaiddaa.P
end

section
namespace Go.Proofs.Ytjecgolakaiddaa.P
open Go.RowKit Go.Proofs.YtjecgolakaiddaaW.PrintWords Go.Proofs.YtjecgolakaiddaaW.PrintLast Go.Proofs.YtjecgolakaiddaaW.PrintMore
attribute [local go_sem] max2_int min2_int max_two min_two max_three min_three max_four min_four
set_option linter.unusedVariables false
set_option linter.unusedSimpArgs false
mutual
def spec_IsTreeState.l0 : Nat → List Int → Int → Int → Int → List (S70) → Option (Bool)
  | 0, _, _, _, _, _ => none
  | k + 1, x1, x2, x7, x102000, x102001 => if x7 < x102000 then (spec_IsTreeState.l1 k x1 x2 x7 x7 0 x102000 x102001) else (some true)
def spec_IsTreeState.l1 : Nat → List Int → Int → Int → Int → Int → Int → List (S70) → Option (Bool)
  | 0, _, _, _, _, _, _, _ => none
  | k + 1, x1, x2, x7, x8, x9, x102000, x102001 => if x9 < x102000 then (if x8 = x2 then (spec_IsTreeState.l0 k x1 x2 (wrap64 (x7 + 1)) x102000 x102001) else (if 0 ≤ x8 then (if x8 < (x1.length : Int) then (if 0 ≤ (rd x1 x8) then (if (rd x1 x8) < (x102001.length : Int) then ((spec_l15Other.f ((rd_T70 x102001 (rd x1 x8)).f0) ((rd_T70 x102001 (rd x1 x8)).f1) x8).bind fun t105 => (spec_IsTreeState.l1 k x1 x2 x7 t105 (wrap64 (x9 + 1)) x102000 x102001)) else (none)) else (none)) else (none)) else (none))) else (if x8 = x2 then (spec_IsTreeState.l0 k x1 x2 (wrap64 (x7 + 1)) x102000 x102001) else (some false))
end
def spec_IsTreeState.f (k : Nat) (a0_0 : Int) (l0_1 : List (S70)) (l1 : List Int) (a2 : Int) : Option (Bool) := (spec_RotorsOk.f k a0_0 l0_1 l1 a2).bind fun t102 => (if t102 = true then (spec_IsTreeState.l0 k l1 a2 0 a0_0 l0_1) else (some false))
theorem spec_IsTreeState.mono_l : ∀ k, (∀ y0 y1 y2 y3 y4, LeO (spec_IsTreeState.l0 k y0 y1 y2 y3 y4) (spec_IsTreeState.l0 (k + 1) y0 y1 y2 y3 y4)) ∧ (∀ y0 y1 y2 y3 y4 y5 y6, LeO (spec_IsTreeState.l1 k y0 y1 y2 y3 y4 y5 y6) (spec_IsTreeState.l1 (k + 1) y0 y1 y2 y3 y4 y5 y6))
  | 0 => ⟨fun _ _ _ _ _ r h => by simp [spec_IsTreeState.l0] at h, fun _ _ _ _ _ _ _ r h => by simp [spec_IsTreeState.l1] at h⟩
  | k + 1 => by
    obtain ⟨ih0, ih1⟩ := spec_IsTreeState.mono_l k
    refine ⟨?_, ?_⟩
    · intro y0 y1 y2 y3 y4
      unfold spec_IsTreeState.l0
      repeat' first
      | (with_reducible exact ih0 _ _ _ _ _)
      | (with_reducible exact ih1 _ _ _ _ _ _ _)
      | (with_reducible exact spec_RotorsOk.mono _ _ _ _ _)
      | (with_reducible exact LeO.refl _)
      | (with_reducible exact LeO.none _)
      | (with_reducible refine LeO.ite ?_ ?_)
      | (with_reducible refine LeO.bind ?_ (fun _ => ?_))
      | exact ih0 _ _ _ _ _
      | exact ih1 _ _ _ _ _ _ _
      | exact spec_RotorsOk.mono _ _ _ _ _
      | exact LeO.none _
      | refine LeO.ite ?_ ?_
      | refine LeO.bind ?_ (fun _ => ?_)
    · intro y0 y1 y2 y3 y4 y5 y6
      unfold spec_IsTreeState.l1
      repeat' first
      | (with_reducible exact ih0 _ _ _ _ _)
      | (with_reducible exact ih1 _ _ _ _ _ _ _)
      | (with_reducible exact spec_RotorsOk.mono _ _ _ _ _)
      | (with_reducible exact LeO.refl _)
      | (with_reducible exact LeO.none _)
      | (with_reducible refine LeO.ite ?_ ?_)
      | (with_reducible refine LeO.bind ?_ (fun _ => ?_))
      | exact ih0 _ _ _ _ _
      | exact ih1 _ _ _ _ _ _ _
      | exact spec_RotorsOk.mono _ _ _ _ _
      | exact LeO.none _
      | refine LeO.ite ?_ ?_
      | refine LeO.bind ?_ (fun _ => ?_)
theorem spec_IsTreeState.mono : ∀ a0 a1 a2 a3 k, LeO (spec_IsTreeState.f k a0 a1 a2 a3) (spec_IsTreeState.f (k + 1) a0 a1 a2 a3) := by
  intro a0 a1 a2 a3 k; obtain ⟨ih0, ih1⟩ := spec_IsTreeState.mono_l k; unfold spec_IsTreeState.f
  repeat' first
      | (with_reducible exact ih0 _ _ _ _ _)
      | (with_reducible exact ih1 _ _ _ _ _ _ _)
      | (with_reducible exact spec_RotorsOk.mono _ _ _ _ _)
      | (with_reducible exact LeO.refl _)
      | (with_reducible exact LeO.none _)
      | (with_reducible refine LeO.ite ?_ ?_)
      | (with_reducible refine LeO.bind ?_ (fun _ => ?_))
      | exact ih0 _ _ _ _ _
      | exact ih1 _ _ _ _ _ _ _
      | exact spec_RotorsOk.mono _ _ _ _ _
      | exact LeO.none _
      | refine LeO.ite ?_ ?_
      | refine LeO.bind ?_ (fun _ => ?_)
end Go.Proofs.Ytjecgolakaiddaa.P
end

section
namespace Go.Proofs.Ytjecgolakaiddaa.P
open Go.RowKit Go.Proofs.YtjecgolakaiddaaW.PrintWords Go.Proofs.YtjecgolakaiddaaW.PrintLast Go.Proofs.YtjecgolakaiddaaW.PrintMore
attribute [local go_sem] max2_int min2_int max_two min_two max_three min_three max_four min_four
set_option linter.unusedVariables false
set_option linter.unusedSimpArgs false
mutual
def impl_IsTreeState.l0 : Nat → List Int → Int → Int → Int → Int → List (S70) → Option (Bool)
  | 0, _, _, _, _, _, _ => none
  | k + 1, x1, x2, x16, x17, x102000, x102001 => if x17 < x16 then (impl_IsTreeState.l1 k x1 x2 x17 0 x16 x17 x102000 x102001) else (some true)
def impl_IsTreeState.l1 : Nat → List Int → Int → Int → Int → Int → Int → Int → List (S70) → Option (Bool)
  | 0, _, _, _, _, _, _, _, _ => none
  | k + 1, x1, x2, x8, x9, x16, x17, x102000, x102001 => if x9 < x102000 then (if x8 = x2 then (impl_IsTreeState.l0 k x1 x2 x16 (wrap64 (x17 + 1)) x102000 x102001) else (if 0 ≤ x8 then (if x8 < (x1.length : Int) then ((impl_across.f x102000 x102001 (rd x1 x8) x8).bind fun t104 => (impl_IsTreeState.l1 k x1 x2 t104 (wrap64 (x9 + 1)) x16 x17 x102000 x102001)) else (none)) else (none))) else (if x8 = x2 then (impl_IsTreeState.l0 k x1 x2 x16 (wrap64 (x17 + 1)) x102000 x102001) else (some false))
end
def impl_IsTreeState.f (k : Nat) (a0_0 : Int) (l0_1 : List (S70)) (l1 : List Int) (a2 : Int) : Option (Bool) := (impl_RotorsOk.f k a0_0 l0_1 l1 a2).bind fun t102 => (if t102 = true then (impl_IsTreeState.l0 k l1 a2 (l1.length : Int) 0 a0_0 l0_1) else (some false))
theorem impl_IsTreeState.mono_l : ∀ k, (∀ y0 y1 y2 y3 y4 y5, LeO (impl_IsTreeState.l0 k y0 y1 y2 y3 y4 y5) (impl_IsTreeState.l0 (k + 1) y0 y1 y2 y3 y4 y5)) ∧ (∀ y0 y1 y2 y3 y4 y5 y6 y7, LeO (impl_IsTreeState.l1 k y0 y1 y2 y3 y4 y5 y6 y7) (impl_IsTreeState.l1 (k + 1) y0 y1 y2 y3 y4 y5 y6 y7))
  | 0 => ⟨fun _ _ _ _ _ _ r h => by simp [impl_IsTreeState.l0] at h, fun _ _ _ _ _ _ _ _ r h => by simp [impl_IsTreeState.l1] at h⟩
  | k + 1 => by
    obtain ⟨ih0, ih1⟩ := impl_IsTreeState.mono_l k
    refine ⟨?_, ?_⟩
    · intro y0 y1 y2 y3 y4 y5
      unfold impl_IsTreeState.l0
      repeat' first
      | (with_reducible exact ih0 _ _ _ _ _ _)
      | (with_reducible exact ih1 _ _ _ _ _ _ _ _)
      | (with_reducible exact impl_RotorsOk.mono _ _ _ _ _)
      | (with_reducible exact LeO.refl _)
      | (with_reducible exact LeO.none _)
      | (with_reducible refine LeO.ite ?_ ?_)
      | (with_reducible refine LeO.bind ?_ (fun _ => ?_))
      | exact ih0 _ _ _ _ _ _
      | exact ih1 _ _ _ _ _ _ _ _
      | exact impl_RotorsOk.mono _ _ _ _ _
      | exact LeO.none _
      | refine LeO.ite ?_ ?_
      | refine LeO.bind ?_ (fun _ => ?_)
    · intro y0 y1 y2 y3 y4 y5 y6 y7
      unfold impl_IsTreeState.l1
      repeat' first
      | (with_reducible exact ih0 _ _ _ _ _ _)
      | (with_reducible exact ih1 _ _ _ _ _ _ _ _)
      | (with_reducible exact impl_RotorsOk.mono _ _ _ _ _)
      | (with_reducible exact LeO.refl _)
      | (with_reducible exact LeO.none _)
      | (with_reducible refine LeO.ite ?_ ?_)
      | (with_reducible refine LeO.bind ?_ (fun _ => ?_))
      | exact ih0 _ _ _ _ _ _
      | exact ih1 _ _ _ _ _ _ _ _
      | exact impl_RotorsOk.mono _ _ _ _ _
      | exact LeO.none _
      | refine LeO.ite ?_ ?_
      | refine LeO.bind ?_ (fun _ => ?_)
theorem impl_IsTreeState.mono : ∀ a0 a1 a2 a3 k, LeO (impl_IsTreeState.f k a0 a1 a2 a3) (impl_IsTreeState.f (k + 1) a0 a1 a2 a3) := by
  intro a0 a1 a2 a3 k; obtain ⟨ih0, ih1⟩ := impl_IsTreeState.mono_l k; unfold impl_IsTreeState.f
  repeat' first
      | (with_reducible exact ih0 _ _ _ _ _ _)
      | (with_reducible exact ih1 _ _ _ _ _ _ _ _)
      | (with_reducible exact impl_RotorsOk.mono _ _ _ _ _)
      | (with_reducible exact LeO.refl _)
      | (with_reducible exact LeO.none _)
      | (with_reducible refine LeO.ite ?_ ?_)
      | (with_reducible refine LeO.bind ?_ (fun _ => ?_))
      | exact ih0 _ _ _ _ _ _
      | exact ih1 _ _ _ _ _ _ _ _
      | exact impl_RotorsOk.mono _ _ _ _ _
      | exact LeO.none _
      | refine LeO.ite ?_ ?_
      | refine LeO.bind ?_ (fun _ => ?_)
end Go.Proofs.Ytjecgolakaiddaa.P
end

section
namespace Go.Proofs.Ytjecgolakaiddaa.Cf
set_option linter.unusedVariables false
set_option linter.unusedSimpArgs false
open Go.RowKit Go.Proofs.YtjecgolakaiddaaW.PrintWords Go.Proofs.Ytjecgolakaiddaa.P
theorem copy_eq (l : List Int) (h : l.length ≤ 1048576) : impl_copyInts.f l = some l := by
  unfold impl_copyInts.f
  rw [if_pos (by simp; omega)]
  rfl
end Go.Proofs.Ytjecgolakaiddaa.Cf
end

section
namespace Go.Proofs.Ytjecgolakaiddaa.P
open Go.RowKit Go.Proofs.YtjecgolakaiddaaW.PrintWords Go.Proofs.YtjecgolakaiddaaW.PrintLast Go.Proofs.YtjecgolakaiddaaW.PrintMore
attribute [local go_sem] max2_int min2_int max_two min_two max_three min_three max_four min_four
set_option linter.unusedVariables false
set_option linter.unusedSimpArgs false
def spec_Topple.f (k : Nat) (a0_0 : Int) (l0_1 : List (S70)) (l1 : List Int) (a2 : Int) (a3 : Int) : Option (List Int × Bool) := (spec_PileOk.f k a0_0 l0_1 l1 a2).bind fun t102 => (if t102 = true then (if a3 = a2 then (some (([] : List Int), false)) else ((spec_l01In.f a3 0 (wrap64 (a0_0 - 1))).bind fun t103 => (if t103 = true then (if 0 ≤ a3 then (if a3 < (l1.length : Int) then ((spec_Valence.f k a0_0 l0_1 a3).bind fun t105 => (if (rd l1 a3) < t105 then (some (([] : List Int), false)) else ((spec_l10Topple.f k a0_0 l0_1 l1 a2 a3).bind fun t106 => (some (t106, true))))) else (none)) else (none)) else (some (([] : List Int), false))))) else (some (([] : List Int), false)))
theorem spec_Topple.mono : ∀ a0 a1 a2 a3 a4 k, LeO (spec_Topple.f k a0 a1 a2 a3 a4) (spec_Topple.f (k + 1) a0 a1 a2 a3 a4) := by
  intro a0 a1 a2 a3 a4 k; unfold spec_Topple.f
  repeat' first
      | (with_reducible exact spec_PileOk.mono _ _ _ _ _)
      | (with_reducible exact spec_Valence.mono _ _ _ _)
      | (with_reducible exact spec_l10Topple.mono _ _ _ _ _ _)
      | (with_reducible exact LeO.refl _)
      | (with_reducible exact LeO.none _)
      | (with_reducible refine LeO.ite ?_ ?_)
      | (with_reducible refine LeO.bind ?_ (fun _ => ?_))
      | exact spec_PileOk.mono _ _ _ _ _
      | exact spec_Valence.mono _ _ _ _
      | exact spec_l10Topple.mono _ _ _ _ _ _
      | exact LeO.none _
      | refine LeO.ite ?_ ?_
      | refine LeO.bind ?_ (fun _ => ?_)
end Go.Proofs.Ytjecgolakaiddaa.P
end

section
namespace Go.Proofs.Ytjecgolakaiddaa.P
open Go.RowKit Go.Proofs.YtjecgolakaiddaaW.PrintWords Go.Proofs.YtjecgolakaiddaaW.PrintLast Go.Proofs.YtjecgolakaiddaaW.PrintMore
attribute [local go_sem] max2_int min2_int max_two min_two max_three min_three max_four min_four
set_option linter.unusedVariables false
set_option linter.unusedSimpArgs false
def impl_Topple.j0 : Nat → List Int → Int → Int → Bool → Int → List (S70) → Option (List Int × Bool)
  | 0, _, _, _, _, _, _ => none
  | k + 1, x1, x2, x3, x38, x102000, x102001 => if x38 = true then (some (([] : List Int), false)) else ((impl_copyInts.f x1).bind fun t106 => ((impl_fire.f k x102000 x102001 t106 x3 1).bind fun t109 => (if 0 ≤ x2 then (if x2 < (t106.length : Int) then (some ((t109.set (x2 : Int).toNat 0), true)) else (none)) else (none))))
def impl_Topple.f (k : Nat) (a0_0 : Int) (l0_1 : List (S70)) (l1 : List Int) (a2 : Int) (a3 : Int) : Option (List Int × Bool) := (impl_PileOk.f k a0_0 l0_1 l1 a2).bind fun t102 => (if t102 = true then (if a3 = a2 then (impl_Topple.j0 k l1 a2 a3 true a0_0 l0_1) else ((impl_within.f a3 0 (wrap64 (a0_0 - 1))).bind fun t103 => (if t103 = true then (if 0 ≤ a3 then (if a3 < (l1.length : Int) then ((impl_Valence.f k a0_0 l0_1 a3).bind fun t105 => (impl_Topple.j0 k l1 a2 a3 (decide ((rd l1 a3) < t105)) a0_0 l0_1)) else (none)) else (none)) else (impl_Topple.j0 k l1 a2 a3 true a0_0 l0_1)))) else (impl_Topple.j0 k l1 a2 a3 true a0_0 l0_1))
theorem impl_Topple.mono_l : ∀ k, (∀ y0 y1 y2 y3 y4 y5, LeO (impl_Topple.j0 k y0 y1 y2 y3 y4 y5) (impl_Topple.j0 (k + 1) y0 y1 y2 y3 y4 y5))
  | 0 => fun _ _ _ _ _ _ r h => by simp [impl_Topple.j0] at h
  | k + 1 => by
    have ih0 := impl_Topple.mono_l k
    · intro y0 y1 y2 y3 y4 y5
      unfold impl_Topple.j0
      repeat' first
      | (with_reducible exact ih0 _ _ _ _ _ _)
      | (with_reducible exact impl_PileOk.mono _ _ _ _ _)
      | (with_reducible exact impl_Valence.mono _ _ _ _)
      | (with_reducible exact impl_fire.mono _ _ _ _ _ _)
      | (with_reducible exact LeO.refl _)
      | (with_reducible exact LeO.none _)
      | (with_reducible refine LeO.ite ?_ ?_)
      | (with_reducible refine LeO.bind ?_ (fun _ => ?_))
      | exact ih0 _ _ _ _ _ _
      | exact impl_PileOk.mono _ _ _ _ _
      | exact impl_Valence.mono _ _ _ _
      | exact impl_fire.mono _ _ _ _ _ _
      | exact LeO.none _
      | refine LeO.ite ?_ ?_
      | refine LeO.bind ?_ (fun _ => ?_)
theorem impl_Topple.mono : ∀ a0 a1 a2 a3 a4 k, LeO (impl_Topple.f k a0 a1 a2 a3 a4) (impl_Topple.f (k + 1) a0 a1 a2 a3 a4) := by
  intro a0 a1 a2 a3 a4 k; have ih0 := impl_Topple.mono_l k; unfold impl_Topple.f
  repeat' first
      | (with_reducible exact ih0 _ _ _ _ _ _)
      | (with_reducible exact impl_PileOk.mono _ _ _ _ _)
      | (with_reducible exact impl_Valence.mono _ _ _ _)
      | (with_reducible exact impl_fire.mono _ _ _ _ _ _)
      | (with_reducible exact LeO.refl _)
      | (with_reducible exact LeO.none _)
      | (with_reducible refine LeO.ite ?_ ?_)
      | (with_reducible refine LeO.bind ?_ (fun _ => ?_))
      | exact ih0 _ _ _ _ _ _
      | exact impl_PileOk.mono _ _ _ _ _
      | exact impl_Valence.mono _ _ _ _
      | exact impl_fire.mono _ _ _ _ _ _
      | exact LeO.none _
      | refine LeO.ite ?_ ?_
      | refine LeO.bind ?_ (fun _ => ?_)
end Go.Proofs.Ytjecgolakaiddaa.P
end

section
namespace Go.Proofs.Ytjecgolakaiddaa.Cf
set_option linter.unusedVariables false
set_option linter.unusedSimpArgs false
open Go.RowKit Go.Proofs.YtjecgolakaiddaaW.PrintWords Go.Proofs.Ytjecgolakaiddaa.P
theorem Less.congr {n : Nat} {es : List E} (hes : ∀ e ∈ es, EOk n e) {d x : List Int} {s t : Int → Int} (h : Less es d s x) (he : ∀ w : Int, 0 ≤ w → w < n → s w = t w) : Less es d t x :=
  ⟨h.1, fun w h0 h1 => by rw [h.2 w h0 h1, lap_congr hes he]⟩
/-- Where the graph is valid. -/
structure Gr (n : Nat) (es : List E) (q : Int) : Prop where
  n1 : 1 ≤ n
  n6 : n ≤ 6
  hes : ∀ e ∈ es, EOk n e
  hel : es.length ≤ 12
  hj : Joined n es
  hq : 0 ≤ q ∧ q < n
theorem Gr.of {n : Nat} {es : List E} {q : Int} (h : GOk (n : Int) es) (hq : 0 ≤ q ∧ q < n) : Gr n es q := by
  obtain ⟨h1, _, h3⟩ := h
  unfold EsOk at h1
  exact ⟨by omega, by omega, h1.2.2.2, h1.2.2.1, h3, hq⟩
theorem specTop {n : Nat} {es : List E} {q : Int} (g : Gr n es q) (x : List Int) (hx : x.length = n) (v : Int) (h0 : 0 ≤ v) (h1 : v < n) (hb : Bd x 1000000) :
    Ep (fun k => spec_l10Topple.f k (n : Int) es x q v) (fun r => Rep n r (fun w => if w = q then 0 else rd x w - lap es (one v 1) w)) := by
  have hn := g.n6
  have hq := g.hq
  have hs : Rep n ((List.replicate n (0 : Int)).set v.toNat 1) (one v 1) := (Rep.zero n).set h0 h1 1
  simp only [spec_l10Topple.f]
  refine Ep.pos (by omega) (Ep.pos (by omega) (Ep.pos (by omega) (Ep.pos (by simp; omega) ?_)))
  refine Ep.bind (specFire n g.n6 es g.hes g.hel x _ hx hs.1 (B := 1000000) (K := 1) ⟨by omega, by omega⟩ hb (hs.bd (fun w _ _ => by unfold one; split <;> omega)) (by omega)) ?_
  rintro r ⟨hr, _⟩
  have hr' := (hr.congr g.hes hs.2).rep hx
  have hl := hr'.1
  refine Ep.pos (by omega) (Ep.pos (by omega) (Ep.now ?_))
  exact hr'.set hq.1 hq.2 0
/-- A configuration before it topples. -/
structure Pre (n : Nat) (q : Int) (p : List Int) : Prop where
  len : p.length = n
  bd : ∀ v : Int, 0 ≤ v → v < n → v ≠ q → 0 ≤ rd p v ∧ rd p v ≤ 1000
  at_q : rd p q = 0
theorem Legal.bds {n : Nat} {es : List E} {q : Int} (g : Gr n es q) {p : List Int} (hp : Pre n q p) {s : Int → Int} (h : Legal n es q (rd p) s) :
    (∀ v : Int, 0 ≤ v → v < n → 0 ≤ s v ∧ s v ≤ 36000) ∧ sumN n (fun i => s (i : Int)) ≤ 216000 ∧ ∀ w : Int, 0 ≤ w → w < n → -500000 ≤ rd p w - lap es s w ∧ rd p w - lap es s w ≤ 500000 := by
  have h1 := h.small g.n6 g.hes g.hj g.hq (c := 1000) (by omega) (fun v h0 h1 h2 => (hp.bd v h0 h1 h2).2)
  refine ⟨fun v h0 h2 => by have := h1.1 v h0 h2; omega, by omega, fun w h0 h2 => ?_⟩
  have h3 := lap_bd g.hes g.hel (s := s) (L := 0) (S := 36000) (by omega) (fun v h0 h2 => by have := h1.1 v h0 h2; omega) w
  by_cases e : w = q
  · subst e
    have := hp.at_q
    omega
  · have := hp.bd w h0 h2 e
    omega
theorem specSettle_l0 {n : Nat} {es : List E} {q : Int} (g : Gr n es q) {p : List Int} (hp : Pre n q p) : ∀ (k : Nat) (s : Int → Int) (x c : List Int), 216000 < sumN n (fun i => s (i : Int)) + k → Legal n es q (rd p) s → Rep n x (fun w => if w = q then 0 else rd p w - lap es s w) → Rep n c s →
    Ep (fun f => spec_l10Settle.l0 f q x c (n : Int) es) (Settled n es q p) := by
  have hn := g.n6
  have hel := g.hel
  intro k
  induction k with
  | zero =>
    intro s x c hk hs _ _
    have := hs.bds g hp
    omega
  | succ k ih =>
    intro s x c hk hs hx hc
    have hb := hs.bds g hp
    have hxl := hx.1
    have hcl := hc.1
    refine Ep.up ?_
    simp only [spec_l10Settle.l0]
    refine Ep.bind (specUnst n es x q (by omega) (by omega)) ?_
    rintro v rfl
    refine Ep.ite (fun h => Ep.now ?_) (fun h => ?_)
    · refine ⟨s, hs, fun v h0 h1 h2 => ?_, hx, hc⟩
      have h3 := unst_neg hxl h v h0 h1 h2
      have h4 := hx.2 v h0 h1
      simp only [if_neg h2] at h4
      rw [h4] at h3
      exact h3
    · have hu := unst_pos hxl h
      generalize unst n es q x x.length 0 = v at hu ⊢
      obtain ⟨h0, h1, h2, h3⟩ := hu
      have hcv := hb.1 v h0 h1
      refine Ep.bind (specTop g x hxl v h0 h1 (hx.bd fun w w0 w1 => by
        have := hb.2.2 w w0 w1
        split <;> omega)) ?_
      intro r hr
      refine Ep.pos (by omega) (Ep.pos (by omega) ?_)
      rw [hc.2 v h0 h1, wrap_id (by omega) (by omega)]
      have h4 := hx.2 v h0 h1
      simp only [if_neg h2] at h4
      rw [h4] at h3
      refine ih (fun w => s w + one v 1 w) r _ ?_ (hs.step h0 h1 h2 h3) (hr.congr fun w w0 w1 => ?_) ((hc.set h0 h1 _).congr fun w _ _ => ?_)
      · rw [sum_grow h0 h1]
        omega
      · by_cases e : w = q
        · simp only [if_pos e]
        · have h5 := hx.2 w w0 w1
          simp only [if_neg e] at h5 ⊢
          rw [h5, lap_add]
          omega
      · unfold one
        by_cases e : w = v
        · rw [if_pos e, if_pos e, e]
        · rw [if_neg e, if_neg e]
          omega
theorem specSettle' {n : Nat} {es : List E} {q : Int} (g : Gr n es q) {p : List Int} (hp : Pre n q p) : Ep (fun k => spec_l10Settle.f k (n : Int) es p q) (Settled n es q p) := by
  have hn := g.n6
  have hl := hp.len
  simp only [spec_l10Settle.f]
  refine Ep.bind0 rfl (Ep.pos (by simp; omega) (Ep.pos (by omega) (Ep.pos (by omega) ?_)))
  refine specSettle_l0 g hp 216001 (fun _ => 0) p _ ?_ .zero ((Rep.self hl).congr fun w _ _ => ?_) (Rep.zero n)
  · simp only [sumN_zero]; omega
  · rw [lap_const (c := 0) (fun _ _ => ⟨rfl, rfl⟩)]
    split
    · rename_i e
      rw [e, hp.at_q]
    · omega
theorem specSettle {n : Nat} {es : List E} {q : Int} (g : Gr n es q) {p : List Int} (hp : Pre n q p) : Ep (fun k => spec_l10Settle.f k (n : Int) es p q) (· = settleS n es q p) := (specSettle' g hp).mono fun _ hr => hr.eq
theorem implStab_l0 {n : Nat} {es : List E} {q : Int} (g : Gr n es q) {p : List Int} (hp : Pre n q p) : ∀ (k : Nat) (s : Int → Int) (x c : List Int), 216000 < sumN n (fun i => s (i : Int)) + k → Legal n es q (rd p) s → Rep n x (fun w => rd p w - lap es s w) → Rep n c s →
    Ep (fun f => impl_stabilize.l0 f q x c (unst n es q x x.length 0) (n : Int) es) (Settled n es q p) := by
  have hn := g.n6
  have hel := g.hel
  have hq := g.hq
  intro k
  induction k with
  | zero =>
    intro s x c hk hs _ _
    have := hs.bds g hp
    omega
  | succ k ih =>
    intro s x c hk hs hx hc
    have hb := hs.bds g hp
    have hxl := hx.1
    have hcl := hc.1
    refine Ep.up ?_
    simp only [impl_stabilize.l0]
    refine Ep.ite (fun h => ?_) (fun h => ?_)
    · have hu := unst_pos (es := es) (q := q) hxl (by omega)
      generalize unst n es q x x.length 0 = v at hu ⊢
      obtain ⟨h0, h1, h2, h3⟩ := hu
      have hcv := hb.1 v h0 h1
      have hxv := hb.2.2 v h0 h1
      have hvp := val_pos g.hj hq ⟨h0, h1⟩ h2
      have hx0 : rd x v = rd p v - lap es s v := hx.2 v h0 h1
      have hdv := Int.ediv_mul_le (rd x v) (b := val es v) (by omega)
      have hd0 : 1 ≤ rd x v / val es v := (Int.le_ediv_iff_mul_le hvp).2 (by omega)
      have hdm : rd x v / val es v ≤ rd x v := Int.ediv_le_self _ (by omega)
      have htd : Int.tdiv (rd x v) (val es v) = rd x v / val es v := Int.tdiv_eq_ediv_of_nonneg (by omega)
      have hbx : Bd x 1000000 := hx.bd fun w w0 w1 => by
        have := hb.2.2 w w0 w1
        omega
      refine Ep.pos (by omega) (Ep.pos (by omega) ?_)
      refine Ep.bind (implValence n es v (by omega)) ?_
      rintro _ rfl
      rw [valG_in ⟨h0, h1⟩]
      refine Ep.neg (by omega) ?_
      rw [htd, wrap_id (x := rd x v / val es v) (by omega) (by omega)]
      generalize rd x v / val es v = m at hdv hd0 hdm ⊢
      obtain ⟨m, rfl⟩ := Int.eq_ofNat_of_zero_le (a := m) (by omega)
      refine Ep.bind (implFire n es g.hes g.hel x v m hxl ⟨h0, h1⟩ (B := 1000000) (K := 1000000) ⟨by omega, by omega⟩ hbx (by omega) (by omega)) ?_
      rintro r ⟨hr, _⟩
      have hr' := hr.rep hxl
      have hrl := hr'.1
      have hs' := hs.many g.hes h0 h1 h2 m (by rw [← hx0]; exact hdv)
      have hsb := (hs'.bds g hp).1 v h0 h1
      simp only [one, if_true] at hsb
      refine Ep.pos (by omega) ?_
      rw [hc.2 v h0 h1, wrap_id (x := s v + (m : Int)) (by omega) (by omega)]
      refine Ep.bind (implUnst n es r q (by omega) (by omega)) ?_
      rintro _ rfl
      refine ih (fun w => s w + one v m w) r _ ?_ hs' (hr'.congr fun w w0 w1 => ?_) ((hc.set h0 h1 _).congr fun w _ _ => ?_)
      · rw [sum_grow h0 h1]
        omega
      · have h5 : rd x w = rd p w - lap es s w := hx.2 w w0 w1
        rw [h5, lap_add]
        omega
      · unfold one
        by_cases e : w = v
        · rw [if_pos e, if_pos e, e]
        · rw [if_neg e, if_neg e]
          omega
    · refine Ep.pos (by omega) (Ep.pos (by omega) (Ep.now ?_))
      refine ⟨s, hs, fun v h0 h1 h2 => ?_, hx.set hq.1 hq.2 0, hc⟩
      have h3 := unst_neg (es := es) (q := q) hxl (by omega) v h0 h1 h2
      rw [hx.2 v h0 h1] at h3
      exact h3
theorem implStab {n : Nat} {es : List E} {q : Int} (g : Gr n es q) {p : List Int} (hp : Pre n q p) : Ep (fun k => impl_stabilize.f k (n : Int) es p q) (· = settleS n es q p) := by
  have hn := g.n6
  have hl := hp.len
  have hel := g.hel
  simp only [impl_stabilize.f]
  refine Ep.bind0 (copy_eq p (by omega)) (Ep.pos (by omega) (Ep.pos (by omega) ?_))
  refine Ep.bind (implUnst n es p q (by omega) (by omega)) ?_
  rintro _ rfl
  refine (implStab_l0 g hp 216001 (fun _ => 0) p _ ?_ .zero ((Rep.self hl).congr fun w _ _ => ?_) (Rep.zero n)).mono fun r hr => hr.eq
  · simp only [sumN_zero]; omega
  · rw [lap_const (c := 0) (fun _ _ => ⟨rfl, rfl⟩)]
    omega
end Go.Proofs.Ytjecgolakaiddaa.Cf
end

section
namespace Go.Proofs.Ytjecgolakaiddaa.Cf
set_option linter.unusedVariables false
set_option linter.unusedSimpArgs false
open Go.RowKit Go.Proofs.YtjecgolakaiddaaW.PrintWords Go.Proofs.Ytjecgolakaiddaa.P
/-- The numbers are no greater than a thousand million. -/
def Mod (l : List Int) : Prop := ∀ x ∈ l, -1000000000 ≤ x ∧ x ≤ 1000000000
theorem implSum_l0 (l : List Int) (hl : l.length ≤ 1048576) (hm : Mod l) : ∀ (d i : Nat) (a : Int), i + d = l.length → -(1000000000 * (i : Int)) ≤ a → a ≤ 1000000000 * (i : Int) → Ep (fun k => impl_sumOf.l0 k a l (l.length : Int) (i : Int)) (· = a + (l.drop i).sum) := by
  intro d
  induction d with
  | zero =>
    intro i a hi h0 h1
    refine Ep.up ?_
    simp only [impl_sumOf.l0]
    refine Ep.neg (by omega) (Ep.now ?_)
    rw [List.drop_of_length_le (by omega)]
    simp
  | succ d ih =>
    intro i a hi h0 h1
    have hlt : i < l.length := by omega
    have hx := hm _ (List.getElem_mem hlt)
    refine Ep.up ?_
    simp only [impl_sumOf.l0]
    refine Ep.pos (by omega) (Ep.pos (by omega) (Ep.pos (by omega) ?_))
    rw [rd_get hlt, wrap_succ (by omega), wrap_id (by omega) (by omega), List.drop_eq_getElem_cons hlt]
    refine (ih (i + 1) _ (by omega) (by omega) (by omega)).mono ?_
    rintro _ rfl
    rw [List.sum_cons]
    omega
theorem implSum (l : List Int) (hl : l.length ≤ 1048576) (hm : Mod l) : Ep (fun k => impl_sumOf.f k l) (· = l.sum) := by
  simp only [impl_sumOf.f]
  refine (implSum_l0 l hl hm l.length 0 0 (by omega) (by omega) (by omega)).mono ?_
  rintro _ rfl
  simp
theorem specSum_l0 (l : List Int) (hl : l.length ≤ 1048576) (hm : Mod l) : ∀ (d i : Nat) (a : Int), i + d = l.length → -(1000000000 * (i : Int)) ≤ a → a ≤ 1000000000 * (i : Int) → Ep (fun k => spec_DegreeOf.l0 k a l (l.length : Int) (i : Int)) (· = a + (l.drop i).sum) := by
  intro d
  induction d with
  | zero =>
    intro i a hi h0 h1
    refine Ep.up ?_
    simp only [spec_DegreeOf.l0]
    refine Ep.neg (by omega) (Ep.now ?_)
    rw [List.drop_of_length_le (by omega)]
    simp
  | succ d ih =>
    intro i a hi h0 h1
    have hlt : i < l.length := by omega
    have hx := hm _ (List.getElem_mem hlt)
    refine Ep.up ?_
    simp only [spec_DegreeOf.l0]
    refine Ep.pos (by omega) (Ep.pos (by omega) (Ep.pos (by omega) ?_))
    rw [rd_get hlt, wrap_succ (by omega), wrap_id (by omega) (by omega), List.drop_eq_getElem_cons hlt]
    refine (ih (i + 1) _ (by omega) (by omega) (by omega)).mono ?_
    rintro _ rfl
    rw [List.sum_cons]
    omega
theorem specSum (l : List Int) (hl : l.length ≤ 1048576) (hm : Mod l) : Ep (fun k => spec_DegreeOf.f k l) (· = l.sum) := by
  simp only [spec_DegreeOf.f]
  refine (specSum_l0 l hl hm l.length 0 0 (by omega) (by omega) (by omega)).mono ?_
  rintro _ rfl
  simp
end Go.Proofs.Ytjecgolakaiddaa.Cf
end

section
namespace Go.Proofs.Ytjecgolakaiddaa.P
open Go.RowKit Go.Proofs.YtjecgolakaiddaaW.PrintWords Go.Proofs.YtjecgolakaiddaaW.PrintLast Go.Proofs.YtjecgolakaiddaaW.PrintMore
attribute [local go_sem] max2_int min2_int max_two min_two max_three min_three max_four min_four
set_option linter.unusedVariables false
set_option linter.unusedSimpArgs false
def spec_Stabilize.f (k : Nat) (a0_0 : Int) (l0_1 : List (S70)) (l1 : List Int) (a2 : Int) : Option (List Int × List Int × Bool) := (spec_PileOk.f k a0_0 l0_1 l1 a2).bind fun t102 => (if t102 = true then ((spec_l10Settle.f k a0_0 l0_1 l1 a2).bind fun bt103 => (some (bt103.1, bt103.2, true))) else (some (([] : List Int), ([] : List Int), false)))
theorem spec_Stabilize.mono : ∀ a0 a1 a2 a3 k, LeO (spec_Stabilize.f k a0 a1 a2 a3) (spec_Stabilize.f (k + 1) a0 a1 a2 a3) := by
  intro a0 a1 a2 a3 k; unfold spec_Stabilize.f
  repeat' first
      | (with_reducible exact spec_PileOk.mono _ _ _ _ _)
      | (with_reducible exact spec_l10Settle.mono _ _ _ _ _)
      | (with_reducible exact LeO.refl _)
      | (with_reducible exact LeO.none _)
      | (with_reducible refine LeO.ite ?_ ?_)
      | (with_reducible refine LeO.bind ?_ (fun _ => ?_))
      | exact spec_PileOk.mono _ _ _ _ _
      | exact spec_l10Settle.mono _ _ _ _ _
      | exact LeO.none _
      | refine LeO.ite ?_ ?_
      | refine LeO.bind ?_ (fun _ => ?_)
end Go.Proofs.Ytjecgolakaiddaa.P
end

section
namespace Go.Proofs.Ytjecgolakaiddaa.P
open Go.RowKit Go.Proofs.YtjecgolakaiddaaW.PrintWords Go.Proofs.YtjecgolakaiddaaW.PrintLast Go.Proofs.YtjecgolakaiddaaW.PrintMore
attribute [local go_sem] max2_int min2_int max_two min_two max_three min_three max_four min_four
set_option linter.unusedVariables false
set_option linter.unusedSimpArgs false
def impl_Stabilize.f (k : Nat) (a0_0 : Int) (l0_1 : List (S70)) (l1 : List Int) (a2 : Int) : Option (List Int × List Int × Bool) := (impl_PileOk.f k a0_0 l0_1 l1 a2).bind fun t102 => (if t102 = true then ((impl_stabilize.f k a0_0 l0_1 l1 a2).bind fun bt103 => (some (bt103.1, bt103.2, true))) else (some (([] : List Int), ([] : List Int), false)))
theorem impl_Stabilize.mono : ∀ a0 a1 a2 a3 k, LeO (impl_Stabilize.f k a0 a1 a2 a3) (impl_Stabilize.f (k + 1) a0 a1 a2 a3) := by
  intro a0 a1 a2 a3 k; unfold impl_Stabilize.f
  repeat' first
      | (with_reducible exact impl_PileOk.mono _ _ _ _ _)
      | (with_reducible exact impl_stabilize.mono _ _ _ _ _)
      | (with_reducible exact LeO.refl _)
      | (with_reducible exact LeO.none _)
      | (with_reducible refine LeO.ite ?_ ?_)
      | (with_reducible refine LeO.bind ?_ (fun _ => ?_))
      | exact impl_PileOk.mono _ _ _ _ _
      | exact impl_stabilize.mono _ _ _ _ _
      | exact LeO.none _
      | refine LeO.ite ?_ ?_
      | refine LeO.bind ?_ (fun _ => ?_)
end Go.Proofs.Ytjecgolakaiddaa.P
end

section
namespace Go.Proofs.Ytjecgolakaiddaa.P
open Go.RowKit Go.Proofs.YtjecgolakaiddaaW.PrintWords Go.Proofs.YtjecgolakaiddaaW.PrintLast Go.Proofs.YtjecgolakaiddaaW.PrintMore
attribute [local go_sem] max2_int min2_int max_two min_two max_three min_three max_four min_four
set_option linter.unusedVariables false
set_option linter.unusedSimpArgs false
def spec_AvalancheSize.f (k : Nat) (a0_0 : Int) (l0_1 : List (S70)) (l1 : List Int) (a2 : Int) : Option (Int) := (spec_Stabilize.f k a0_0 l0_1 l1 a2).bind fun bt102 => (if bt102.2.2 = true then ((spec_DegreeOf.f k bt102.2.1).bind fun t109 => (some t109)) else (some (-1)))
theorem spec_AvalancheSize.mono : ∀ a0 a1 a2 a3 k, LeO (spec_AvalancheSize.f k a0 a1 a2 a3) (spec_AvalancheSize.f (k + 1) a0 a1 a2 a3) := by
  intro a0 a1 a2 a3 k; unfold spec_AvalancheSize.f
  repeat' first
      | (with_reducible exact spec_DegreeOf.mono _ _)
      | (with_reducible exact spec_Stabilize.mono _ _ _ _ _)
      | (with_reducible exact LeO.refl _)
      | (with_reducible exact LeO.none _)
      | (with_reducible refine LeO.ite ?_ ?_)
      | (with_reducible refine LeO.bind ?_ (fun _ => ?_))
      | exact spec_DegreeOf.mono _ _
      | exact spec_Stabilize.mono _ _ _ _ _
      | exact LeO.none _
      | refine LeO.ite ?_ ?_
      | refine LeO.bind ?_ (fun _ => ?_)
end Go.Proofs.Ytjecgolakaiddaa.P
end

section
namespace Go.Proofs.Ytjecgolakaiddaa.P
open Go.RowKit Go.Proofs.YtjecgolakaiddaaW.PrintWords Go.Proofs.YtjecgolakaiddaaW.PrintLast Go.Proofs.YtjecgolakaiddaaW.PrintMore
attribute [local go_sem] max2_int min2_int max_two min_two max_three min_three max_four min_four
set_option linter.unusedVariables false
set_option linter.unusedSimpArgs false
def impl_AvalancheSize.f (k : Nat) (a0_0 : Int) (l0_1 : List (S70)) (l1 : List Int) (a2 : Int) : Option (Int) := (impl_Stabilize.f k a0_0 l0_1 l1 a2).bind fun bt102 => (if bt102.2.2 = true then ((impl_sumOf.f k bt102.2.1).bind fun t109 => (some t109)) else (some (-1)))
theorem impl_AvalancheSize.mono : ∀ a0 a1 a2 a3 k, LeO (impl_AvalancheSize.f k a0 a1 a2 a3) (impl_AvalancheSize.f (k + 1) a0 a1 a2 a3) := by
  intro a0 a1 a2 a3 k; unfold impl_AvalancheSize.f
  repeat' first
      | (with_reducible exact impl_Stabilize.mono _ _ _ _ _)
      | (with_reducible exact impl_sumOf.mono _ _)
      | (with_reducible exact LeO.refl _)
      | (with_reducible exact LeO.none _)
      | (with_reducible refine LeO.ite ?_ ?_)
      | (with_reducible refine LeO.bind ?_ (fun _ => ?_))
      | exact impl_Stabilize.mono _ _ _ _ _
      | exact impl_sumOf.mono _ _
      | exact LeO.none _
      | refine LeO.ite ?_ ?_
      | refine LeO.bind ?_ (fun _ => ?_)
end Go.Proofs.Ytjecgolakaiddaa.P
end

section
namespace Go.Proofs.Ytjecgolakaiddaa.Cf
set_option linter.unusedVariables false
set_option linter.unusedSimpArgs false
open Go.RowKit Go.Proofs.YtjecgolakaiddaaW.PrintWords Go.Proofs.Ytjecgolakaiddaa.P
theorem pOk_pre {n : Int} {es : List E} {p : List Int} {q : Int} (h : pOk n es p q = true) : ∃ m : Nat, n = m ∧ Gr m es q ∧ Pre m q p := by
  obtain ⟨⟨h1, h2, h3⟩, h4, h5, h6⟩ := pOk_iff.1 h
  obtain ⟨m, rfl⟩ := Int.eq_ofNat_of_zero_le (a := n) (by omega)
  have hl : p.length = m := by omega
  refine ⟨m, rfl, Gr.of h1 h4, ⟨hl, fun v v0 v1 _ => ?_, h6⟩⟩
  obtain ⟨i, rfl⟩ := Int.eq_ofNat_of_zero_le v0
  have hi : i < p.length := by omega
  have := h3 _ (List.getElem_mem hi)
  have := h5 _ (List.getElem_mem hi)
  rw [rd_get hi]
  omega
end Go.Proofs.Ytjecgolakaiddaa.Cf
end

section
namespace Go.Proofs.Ytjecgolakaiddaa.P
open Go.RowKit Go.Proofs.YtjecgolakaiddaaW.PrintWords Go.Proofs.YtjecgolakaiddaaW.PrintLast Go.Proofs.YtjecgolakaiddaaW.PrintMore
attribute [local go_sem] max2_int min2_int max_two min_two max_three min_three max_four min_four
set_option linter.unusedVariables false
set_option linter.unusedSimpArgs false
mutual
def impl_Multiplicity.j0 : Nat → Int → Int → Bool → Int → List (S70) → Option (Int)
  | 0, _, _, _, _, _ => none
  | k + 1, x1, x2, x26, x102000, x102001 => if x26 = true then (some 0) else (impl_Multiplicity.l0 k x1 x2 0 x102001 (x102001.length : Int) 0)
def impl_Multiplicity.l0 : Nat → Int → Int → Int → List (S70) → Int → Int → Option (Int)
  | 0, _, _, _, _, _, _ => none
  | k + 1, x1, x2, x7, x28, x29, x30 => if x30 < x29 then (if 0 ≤ x30 then (if x30 < (x28.length : Int) then (if ((rd_T70 x28 x30).f0) = (mn x1 x2) then (if ((rd_T70 x28 x30).f1) = (mx x1 x2) then (impl_Multiplicity.l0 k x1 x2 (wrap64 (x7 + 1)) x28 x29 (wrap64 (x30 + 1))) else (impl_Multiplicity.l0 k x1 x2 x7 x28 x29 (wrap64 (x30 + 1)))) else (impl_Multiplicity.l0 k x1 x2 x7 x28 x29 (wrap64 (x30 + 1)))) else (none)) else (none)) else (some x7)
end
def impl_Multiplicity.f (k : Nat) (a0_0 : Int) (l0_1 : List (S70)) (a1 : Int) (a2 : Int) : Option (Int) := if (mn a1 a2) < 0 then (impl_Multiplicity.j0 k a1 a2 true a0_0 l0_1) else (if (mx a1 a2) ≥ a0_0 then (impl_Multiplicity.j0 k a1 a2 true a0_0 l0_1) else (impl_Multiplicity.j0 k a1 a2 (a1 == a2) a0_0 l0_1))
theorem impl_Multiplicity.mono_l : ∀ k, (∀ y0 y1 y2 y3 y4, LeO (impl_Multiplicity.j0 k y0 y1 y2 y3 y4) (impl_Multiplicity.j0 (k + 1) y0 y1 y2 y3 y4)) ∧ (∀ y0 y1 y2 y3 y4 y5, LeO (impl_Multiplicity.l0 k y0 y1 y2 y3 y4 y5) (impl_Multiplicity.l0 (k + 1) y0 y1 y2 y3 y4 y5))
  | 0 => ⟨fun _ _ _ _ _ r h => by simp [impl_Multiplicity.j0] at h, fun _ _ _ _ _ _ r h => by simp [impl_Multiplicity.l0] at h⟩
  | k + 1 => by
    obtain ⟨ih0, ih1⟩ := impl_Multiplicity.mono_l k
    refine ⟨?_, ?_⟩
    · intro y0 y1 y2 y3 y4
      unfold impl_Multiplicity.j0
      repeat' first
      | (with_reducible exact ih0 _ _ _ _ _)
      | (with_reducible exact ih1 _ _ _ _ _ _)
      | (with_reducible exact LeO.refl _)
      | (with_reducible exact LeO.none _)
      | (with_reducible refine LeO.ite ?_ ?_)
      | (with_reducible refine LeO.bind ?_ (fun _ => ?_))
      | exact ih0 _ _ _ _ _
      | exact ih1 _ _ _ _ _ _
      | exact LeO.none _
      | refine LeO.ite ?_ ?_
      | refine LeO.bind ?_ (fun _ => ?_)
    · intro y0 y1 y2 y3 y4 y5
      unfold impl_Multiplicity.l0
      repeat' first
      | (with_reducible exact ih0 _ _ _ _ _)
      | (with_reducible exact ih1 _ _ _ _ _ _)
      | (with_reducible exact LeO.refl _)
      | (with_reducible exact LeO.none _)
      | (with_reducible refine LeO.ite ?_ ?_)
      | (with_reducible refine LeO.bind ?_ (fun _ => ?_))
      | exact ih0 _ _ _ _ _
      | exact ih1 _ _ _ _ _ _
      | exact LeO.none _
      | refine LeO.ite ?_ ?_
      | refine LeO.bind ?_ (fun _ => ?_)
theorem impl_Multiplicity.mono : ∀ a0 a1 a2 a3 k, LeO (impl_Multiplicity.f k a0 a1 a2 a3) (impl_Multiplicity.f (k + 1) a0 a1 a2 a3) := by
  intro a0 a1 a2 a3 k; obtain ⟨ih0, ih1⟩ := impl_Multiplicity.mono_l k; unfold impl_Multiplicity.f
  repeat' first
      | (with_reducible exact ih0 _ _ _ _ _)
      | (with_reducible exact ih1 _ _ _ _ _ _)
      | (with_reducible exact LeO.refl _)
      | (with_reducible exact LeO.none _)
      | (with_reducible refine LeO.ite ?_ ?_)
      | (with_reducible refine LeO.bind ?_ (fun _ => ?_))
      | exact ih0 _ _ _ _ _
      | exact ih1 _ _ _ _ _ _
      | exact LeO.none _
      | refine LeO.ite ?_ ?_
      | refine LeO.bind ?_ (fun _ => ?_)
end Go.Proofs.Ytjecgolakaiddaa.P
end

section
namespace Go.Proofs.Ytjecgolakaiddaa.P
open Go.RowKit Go.Proofs.YtjecgolakaiddaaW.PrintWords Go.Proofs.YtjecgolakaiddaaW.PrintLast Go.Proofs.YtjecgolakaiddaaW.PrintMore
attribute [local go_sem] max2_int min2_int max_two min_two max_three min_three max_four min_four
set_option linter.unusedVariables false
set_option linter.unusedSimpArgs false
def slices_Index_int_int.l0 : Nat → List Int → Int → Int → Int → Option (Int)
  | 0, _, _, _, _ => none
  | k + 1, x0, x1, x7, x8 => if x8 < x7 then (if 0 ≤ x8 then (if x8 < (x0.length : Int) then (if x1 = (rd x0 x8) then (some x8) else (slices_Index_int_int.l0 k x0 x1 x7 (wrap64 (x8 + 1)))) else (none)) else (none)) else (some (-1))
def slices_Index_int_int.f (k : Nat) (l0 : List Int) (a1 : Int) : Option (Int) := slices_Index_int_int.l0 k l0 a1 (l0.length : Int) 0
theorem slices_Index_int_int.mono_l : ∀ k, (∀ y0 y1 y2 y3, LeO (slices_Index_int_int.l0 k y0 y1 y2 y3) (slices_Index_int_int.l0 (k + 1) y0 y1 y2 y3))
  | 0 => fun _ _ _ _ r h => by simp [slices_Index_int_int.l0] at h
  | k + 1 => by
    have ih0 := slices_Index_int_int.mono_l k
    · intro y0 y1 y2 y3
      unfold slices_Index_int_int.l0
      repeat' first
      | (with_reducible exact ih0 _ _ _ _)
      | (with_reducible exact LeO.refl _)
      | (with_reducible exact LeO.none _)
      | (with_reducible refine LeO.ite ?_ ?_)
      | (with_reducible refine LeO.bind ?_ (fun _ => ?_))
      | exact ih0 _ _ _ _
      | exact LeO.none _
      | refine LeO.ite ?_ ?_
      | refine LeO.bind ?_ (fun _ => ?_)
theorem slices_Index_int_int.mono : ∀ a0 a1 k, LeO (slices_Index_int_int.f k a0 a1) (slices_Index_int_int.f (k + 1) a0 a1) := by
  intro a0 a1 k; have ih0 := slices_Index_int_int.mono_l k; unfold slices_Index_int_int.f
  repeat' first
      | (with_reducible exact ih0 _ _ _ _)
      | (with_reducible exact LeO.refl _)
      | (with_reducible exact LeO.none _)
      | (with_reducible refine LeO.ite ?_ ?_)
      | (with_reducible refine LeO.bind ?_ (fun _ => ?_))
      | exact ih0 _ _ _ _
      | exact LeO.none _
      | refine LeO.ite ?_ ?_
      | refine LeO.bind ?_ (fun _ => ?_)
end Go.Proofs.Ytjecgolakaiddaa.P
end

section
namespace Go.Proofs.Ytjecgolakaiddaa.P
open Go.RowKit Go.Proofs.YtjecgolakaiddaaW.PrintWords Go.Proofs.YtjecgolakaiddaaW.PrintLast Go.Proofs.YtjecgolakaiddaaW.PrintMore
attribute [local go_sem] max2_int min2_int max_two min_two max_three min_three max_four min_four
set_option linter.unusedVariables false
set_option linter.unusedSimpArgs false
def slices_Contains_int_int.f (k : Nat) (l0 : List Int) (a1 : Int) : Option (Bool) := (slices_Index_int_int.f k l0 a1).bind fun t101 => (some (decide (t101 ≥ 0)))
theorem slices_Contains_int_int.mono : ∀ a0 a1 k, LeO (slices_Contains_int_int.f k a0 a1) (slices_Contains_int_int.f (k + 1) a0 a1) := by
  intro a0 a1 k; unfold slices_Contains_int_int.f
  repeat' first
      | (with_reducible exact slices_Index_int_int.mono _ _ _)
      | (with_reducible exact LeO.refl _)
      | (with_reducible exact LeO.none _)
      | (with_reducible refine LeO.ite ?_ ?_)
      | (with_reducible refine LeO.bind ?_ (fun _ => ?_))
      | exact slices_Index_int_int.mono _ _ _
      | exact LeO.none _
      | refine LeO.ite ?_ ?_
      | refine LeO.bind ?_ (fun _ => ?_)
end Go.Proofs.Ytjecgolakaiddaa.P
end

section
namespace Go.Proofs.Ytjecgolakaiddaa.P
open Go.RowKit Go.Proofs.YtjecgolakaiddaaW.PrintWords Go.Proofs.YtjecgolakaiddaaW.PrintLast Go.Proofs.YtjecgolakaiddaaW.PrintMore
attribute [local go_sem] max2_int min2_int max_two min_two max_three min_three max_four min_four
set_option linter.unusedVariables false
set_option linter.unusedSimpArgs false
mutual
def spec_l05Burn.l0 : Nat → List Int → List Int → List Bool → Int → List (S70) → Option (List Int)
  | 0, _, _, _, _, _ => none
  | k + 1, x1, x7, x8, x102000, x102001 => spec_l05Burn.l1 k x1 x7 x8 (-1) (wrap64 (x102000 - 1)) x102000 x102001
def spec_l05Burn.l1 : Nat → List Int → List Int → List Bool → Int → Int → Int → List (S70) → Option (List Int)
  | 0, _, _, _, _, _, _, _ => none
  | k + 1, x1, x7, x8, x9, x10, x102000, x102001 => if x10 ≥ 0 then (spec_l05Burn.l2 k x1 x7 x8 x9 x10 0 0 x102000 x102001) else (if x9 < 0 then (some x7) else (if 0 ≤ x9 then (if x9 < (x8.length : Int) then (if x7.length < 17592186044416 then (spec_l05Burn.l0 k x1 (x7 ++ [x9]) (x8.set (x9 : Int).toNat true) x102000 x102001) else (none)) else (none)) else (none)))
def spec_l05Burn.l2 : Nat → List Int → List Int → List Bool → Int → Int → Int → Int → Int → List (S70) → Option (List Int)
  | 0, _, _, _, _, _, _, _, _, _ => none
  | k + 1, x1, x7, x8, x9, x10, x11, x12, x102000, x102001 => if x12 < x102000 then (if 0 ≤ x12 then (if x12 < (x8.length : Int) then (if rdOf false x8 x12 = true then ((spec_Multiplicity.f k x102000 x102001 x10 x12).bind fun t114 => (spec_l05Burn.l2 k x1 x7 x8 x9 x10 (wrap64 (x11 + t114)) (wrap64 (x12 + 1)) x102000 x102001)) else (spec_l05Burn.l2 k x1 x7 x8 x9 x10 x11 (wrap64 (x12 + 1)) x102000 x102001)) else (none)) else (none)) else (if 0 ≤ x10 then (if x10 < (x8.length : Int) then (if rdOf false x8 x10 = true then (spec_l05Burn.l1 k x1 x7 x8 x9 (wrap64 (x10 - 1)) x102000 x102001) else (if x10 < (x1.length : Int) then (if (rd x1 x10) < x11 then (spec_l05Burn.l1 k x1 x7 x8 x10 (wrap64 (x10 - 1)) x102000 x102001) else (spec_l05Burn.l1 k x1 x7 x8 x9 (wrap64 (x10 - 1)) x102000 x102001)) else (none))) else (none)) else (none))
end
def spec_l05Burn.f (k : Nat) (a0_0 : Int) (l0_1 : List (S70)) (l1 : List Int) (a2 : Int) : Option (List Int) := if 0 ≤ a0_0 then (if (a0_0 : Int).toNat ≤ 281474976710656 then ((some (List.replicate (a0_0 : Int).toNat false : List Bool)).bind fun y105 => (if 0 ≤ a2 then (if a2 < (y105.length : Int) then (spec_l05Burn.l0 k l1 (([a2] : List Int)) (y105.set (a2 : Int).toNat true) a0_0 l0_1) else (none)) else (none))) else (none)) else (none)
theorem spec_l05Burn.mono_l : ∀ k, (∀ y0 y1 y2 y3 y4, LeO (spec_l05Burn.l0 k y0 y1 y2 y3 y4) (spec_l05Burn.l0 (k + 1) y0 y1 y2 y3 y4)) ∧ (∀ y0 y1 y2 y3 y4 y5 y6, LeO (spec_l05Burn.l1 k y0 y1 y2 y3 y4 y5 y6) (spec_l05Burn.l1 (k + 1) y0 y1 y2 y3 y4 y5 y6)) ∧ (∀ y0 y1 y2 y3 y4 y5 y6 y7 y8, LeO (spec_l05Burn.l2 k y0 y1 y2 y3 y4 y5 y6 y7 y8) (spec_l05Burn.l2 (k + 1) y0 y1 y2 y3 y4 y5 y6 y7 y8))
  | 0 => ⟨fun _ _ _ _ _ r h => by simp [spec_l05Burn.l0] at h, fun _ _ _ _ _ _ _ r h => by simp [spec_l05Burn.l1] at h, fun _ _ _ _ _ _ _ _ _ r h => by simp [spec_l05Burn.l2] at h⟩
  | k + 1 => by
    obtain ⟨ih0, ih1, ih2⟩ := spec_l05Burn.mono_l k
    refine ⟨?_, ?_, ?_⟩
    · intro y0 y1 y2 y3 y4
      unfold spec_l05Burn.l0
      repeat' first
      | (with_reducible exact ih0 _ _ _ _ _)
      | (with_reducible exact ih1 _ _ _ _ _ _ _)
      | (with_reducible exact ih2 _ _ _ _ _ _ _ _ _)
      | (with_reducible exact spec_Multiplicity.mono _ _ _ _ _)
      | (with_reducible exact LeO.refl _)
      | (with_reducible exact LeO.none _)
      | (with_reducible refine LeO.ite ?_ ?_)
      | (with_reducible refine LeO.bind ?_ (fun _ => ?_))
      | exact ih0 _ _ _ _ _
      | exact ih1 _ _ _ _ _ _ _
      | exact ih2 _ _ _ _ _ _ _ _ _
      | exact spec_Multiplicity.mono _ _ _ _ _
      | exact LeO.none _
      | refine LeO.ite ?_ ?_
      | refine LeO.bind ?_ (fun _ => ?_)
    · intro y0 y1 y2 y3 y4 y5 y6
      unfold spec_l05Burn.l1
      repeat' first
      | (with_reducible exact ih0 _ _ _ _ _)
      | (with_reducible exact ih1 _ _ _ _ _ _ _)
      | (with_reducible exact ih2 _ _ _ _ _ _ _ _ _)
      | (with_reducible exact spec_Multiplicity.mono _ _ _ _ _)
      | (with_reducible exact LeO.refl _)
      | (with_reducible exact LeO.none _)
      | (with_reducible refine LeO.ite ?_ ?_)
      | (with_reducible refine LeO.bind ?_ (fun _ => ?_))
      | exact ih0 _ _ _ _ _
      | exact ih1 _ _ _ _ _ _ _
      | exact ih2 _ _ _ _ _ _ _ _ _
      | exact spec_Multiplicity.mono _ _ _ _ _
      | exact LeO.none _
      | refine LeO.ite ?_ ?_
      | refine LeO.bind ?_ (fun _ => ?_)
    · intro y0 y1 y2 y3 y4 y5 y6 y7 y8
      unfold spec_l05Burn.l2
      repeat' first
      | (with_reducible exact ih0 _ _ _ _ _)
      | (with_reducible exact ih1 _ _ _ _ _ _ _)
      | (with_reducible exact ih2 _ _ _ _ _ _ _ _ _)
      | (with_reducible exact spec_Multiplicity.mono _ _ _ _ _)
      | (with_reducible exact LeO.refl _)
      | (with_reducible exact LeO.none _)
      | (with_reducible refine LeO.ite ?_ ?_)
      | (with_reducible refine LeO.bind ?_ (fun _ => ?_))
      | exact ih0 _ _ _ _ _
      | exact ih1 _ _ _ _ _ _ _
      | exact ih2 _ _ _ _ _ _ _ _ _
      | exact spec_Multiplicity.mono _ _ _ _ _
      | exact LeO.none _
      | refine LeO.ite ?_ ?_
      | refine LeO.bind ?_ (fun _ => ?_)
theorem spec_l05Burn.mono : ∀ a0 a1 a2 a3 k, LeO (spec_l05Burn.f k a0 a1 a2 a3) (spec_l05Burn.f (k + 1) a0 a1 a2 a3) := by
  intro a0 a1 a2 a3 k; obtain ⟨ih0, ih1, ih2⟩ := spec_l05Burn.mono_l k; unfold spec_l05Burn.f
  repeat' first
      | (with_reducible exact ih0 _ _ _ _ _)
      | (with_reducible exact ih1 _ _ _ _ _ _ _)
      | (with_reducible exact ih2 _ _ _ _ _ _ _ _ _)
      | (with_reducible exact spec_Multiplicity.mono _ _ _ _ _)
      | (with_reducible exact LeO.refl _)
      | (with_reducible exact LeO.none _)
      | (with_reducible refine LeO.ite ?_ ?_)
      | (with_reducible refine LeO.bind ?_ (fun _ => ?_))
      | exact ih0 _ _ _ _ _
      | exact ih1 _ _ _ _ _ _ _
      | exact ih2 _ _ _ _ _ _ _ _ _
      | exact spec_Multiplicity.mono _ _ _ _ _
      | exact LeO.none _
      | refine LeO.ite ?_ ?_
      | refine LeO.bind ?_ (fun _ => ?_)
end Go.Proofs.Ytjecgolakaiddaa.P
end

section
namespace Go.Proofs.Ytjecgolakaiddaa.P
open Go.RowKit Go.Proofs.YtjecgolakaiddaaW.PrintWords Go.Proofs.YtjecgolakaiddaaW.PrintLast Go.Proofs.YtjecgolakaiddaaW.PrintMore
attribute [local go_sem] max2_int min2_int max_two min_two max_three min_three max_four min_four
set_option linter.unusedVariables false
set_option linter.unusedSimpArgs false
mutual
def impl_burn.l0 : Nat → List Int → List Int → Int → List (S70) → Option (List Int)
  | 0, _, _, _, _ => none
  | k + 1, x1, x7, x102000, x102001 => impl_burn.l1 k x1 x7 (-1) 0 x102000 x102001
def impl_burn.l1 : Nat → List Int → List Int → Int → Int → Int → List (S70) → Option (List Int)
  | 0, _, _, _, _, _, _ => none
  | k + 1, x1, x7, x8, x9, x102000, x102001 => if x9 < x102000 then (impl_burn.j2 k x1 x7 x8 x9 (decide (x8 < 0)) x102000 x102001) else (impl_burn.j2 k x1 x7 x8 x9 false x102000 x102001)
def impl_burn.j2 : Nat → List Int → List Int → Int → Int → Bool → Int → List (S70) → Option (List Int)
  | 0, _, _, _, _, _, _, _ => none
  | k + 1, x1, x7, x8, x9, x22, x102000, x102001 => if x22 = true then (impl_burn.l2 k x1 x7 x8 x9 0 x7 (x7.length : Int) 0 x102000 x102001) else (if x8 < 0 then (some x7) else (if x7.length < 17592186044416 then (impl_burn.l0 k x1 (x7 ++ [x8]) x102000 x102001) else (none)))
def impl_burn.l2 : Nat → List Int → List Int → Int → Int → Int → List Int → Int → Int → Int → List (S70) → Option (List Int)
  | 0, _, _, _, _, _, _, _, _, _, _ => none
  | k + 1, x1, x7, x8, x9, x10, x25, x26, x27, x102000, x102001 => if x27 < x26 then (if 0 ≤ x27 then (if x27 < (x25.length : Int) then ((impl_Multiplicity.f k x102000 x102001 x9 (rd x25 x27)).bind fun t109 => (impl_burn.l2 k x1 x7 x8 x9 (wrap64 (x10 + t109)) x25 x26 (wrap64 (x27 + 1)) x102000 x102001)) else (none)) else (none)) else ((slices_Contains_int_int.f k x7 x9).bind fun t110 => (if t110 = true then (impl_burn.l1 k x1 x7 x8 (wrap64 (x9 + 1)) x102000 x102001) else (if 0 ≤ x9 then (if x9 < (x1.length : Int) then (if (rd x1 x9) < x10 then (impl_burn.l1 k x1 x7 x9 (wrap64 (x9 + 1)) x102000 x102001) else (impl_burn.l1 k x1 x7 x8 (wrap64 (x9 + 1)) x102000 x102001)) else (none)) else (none))))
end
def impl_burn.f (k : Nat) (a0_0 : Int) (l0_1 : List (S70)) (l1 : List Int) (a2 : Int) : Option (List Int) := impl_burn.l0 k l1 (([a2] : List Int)) a0_0 l0_1
theorem impl_burn.mono_l : ∀ k, (∀ y0 y1 y2 y3, LeO (impl_burn.l0 k y0 y1 y2 y3) (impl_burn.l0 (k + 1) y0 y1 y2 y3)) ∧ (∀ y0 y1 y2 y3 y4 y5, LeO (impl_burn.l1 k y0 y1 y2 y3 y4 y5) (impl_burn.l1 (k + 1) y0 y1 y2 y3 y4 y5)) ∧ (∀ y0 y1 y2 y3 y4 y5 y6, LeO (impl_burn.j2 k y0 y1 y2 y3 y4 y5 y6) (impl_burn.j2 (k + 1) y0 y1 y2 y3 y4 y5 y6)) ∧ (∀ y0 y1 y2 y3 y4 y5 y6 y7 y8 y9, LeO (impl_burn.l2 k y0 y1 y2 y3 y4 y5 y6 y7 y8 y9) (impl_burn.l2 (k + 1) y0 y1 y2 y3 y4 y5 y6 y7 y8 y9))
  | 0 => ⟨fun _ _ _ _ r h => by simp [impl_burn.l0] at h, fun _ _ _ _ _ _ r h => by simp [impl_burn.l1] at h, fun _ _ _ _ _ _ _ r h => by simp [impl_burn.j2] at h, fun _ _ _ _ _ _ _ _ _ _ r h => by simp [impl_burn.l2] at h⟩
  | k + 1 => by
    obtain ⟨ih0, ih1, ih2, ih3⟩ := impl_burn.mono_l k
    refine ⟨?_, ?_, ?_, ?_⟩
    · intro y0 y1 y2 y3
      unfold impl_burn.l0
      repeat' first
      | (with_reducible exact ih0 _ _ _ _)
      | (with_reducible exact ih1 _ _ _ _ _ _)
      | (with_reducible exact ih2 _ _ _ _ _ _ _)
      | (with_reducible exact ih3 _ _ _ _ _ _ _ _ _ _)
      | (with_reducible exact impl_Multiplicity.mono _ _ _ _ _)
      | (with_reducible exact slices_Contains_int_int.mono _ _ _)
      | (with_reducible exact LeO.refl _)
      | (with_reducible exact LeO.none _)
      | (with_reducible refine LeO.ite ?_ ?_)
      | (with_reducible refine LeO.bind ?_ (fun _ => ?_))
      | exact ih0 _ _ _ _
      | exact ih1 _ _ _ _ _ _
      | exact ih2 _ _ _ _ _ _ _
      | exact ih3 _ _ _ _ _ _ _ _ _ _
      | exact impl_Multiplicity.mono _ _ _ _ _
      | exact slices_Contains_int_int.mono _ _ _
      | exact LeO.none _
      | refine LeO.ite ?_ ?_
      | refine LeO.bind ?_ (fun _ => ?_)
    · intro y0 y1 y2 y3 y4 y5
      unfold impl_burn.l1
      repeat' first
      | (with_reducible exact ih0 _ _ _ _)
      | (with_reducible exact ih1 _ _ _ _ _ _)
      | (with_reducible exact ih2 _ _ _ _ _ _ _)
      | (with_reducible exact ih3 _ _ _ _ _ _ _ _ _ _)
      | (with_reducible exact impl_Multiplicity.mono _ _ _ _ _)
      | (with_reducible exact slices_Contains_int_int.mono _ _ _)
      | (with_reducible exact LeO.refl _)
      | (with_reducible exact LeO.none _)
      | (with_reducible refine LeO.ite ?_ ?_)
      | (with_reducible refine LeO.bind ?_ (fun _ => ?_))
      | exact ih0 _ _ _ _
      | exact ih1 _ _ _ _ _ _
      | exact ih2 _ _ _ _ _ _ _
      | exact ih3 _ _ _ _ _ _ _ _ _ _
      | exact impl_Multiplicity.mono _ _ _ _ _
      | exact slices_Contains_int_int.mono _ _ _
      | exact LeO.none _
      | refine LeO.ite ?_ ?_
      | refine LeO.bind ?_ (fun _ => ?_)
    · intro y0 y1 y2 y3 y4 y5 y6
      unfold impl_burn.j2
      repeat' first
      | (with_reducible exact ih0 _ _ _ _)
      | (with_reducible exact ih1 _ _ _ _ _ _)
      | (with_reducible exact ih2 _ _ _ _ _ _ _)
      | (with_reducible exact ih3 _ _ _ _ _ _ _ _ _ _)
      | (with_reducible exact impl_Multiplicity.mono _ _ _ _ _)
      | (with_reducible exact slices_Contains_int_int.mono _ _ _)
      | (with_reducible exact LeO.refl _)
      | (with_reducible exact LeO.none _)
      | (with_reducible refine LeO.ite ?_ ?_)
      | (with_reducible refine LeO.bind ?_ (fun _ => ?_))
      | exact ih0 _ _ _ _
      | exact ih1 _ _ _ _ _ _
      | exact ih2 _ _ _ _ _ _ _
      | exact ih3 _ _ _ _ _ _ _ _ _ _
      | exact impl_Multiplicity.mono _ _ _ _ _
      | exact slices_Contains_int_int.mono _ _ _
      | exact LeO.none _
      | refine LeO.ite ?_ ?_
      | refine LeO.bind ?_ (fun _ => ?_)
    · intro y0 y1 y2 y3 y4 y5 y6 y7 y8 y9
      unfold impl_burn.l2
      repeat' first
      | (with_reducible exact ih0 _ _ _ _)
      | (with_reducible exact ih1 _ _ _ _ _ _)
      | (with_reducible exact ih2 _ _ _ _ _ _ _)
      | (with_reducible exact ih3 _ _ _ _ _ _ _ _ _ _)
      | (with_reducible exact impl_Multiplicity.mono _ _ _ _ _)
      | (with_reducible exact slices_Contains_int_int.mono _ _ _)
      | (with_reducible exact LeO.refl _)
      | (with_reducible exact LeO.none _)
      | (with_reducible refine LeO.ite ?_ ?_)
      | (with_reducible refine LeO.bind ?_ (fun _ => ?_))
      | exact ih0 _ _ _ _
      | exact ih1 _ _ _ _ _ _
      | exact ih2 _ _ _ _ _ _ _
      | exact ih3 _ _ _ _ _ _ _ _ _ _
      | exact impl_Multiplicity.mono _ _ _ _ _
      | exact slices_Contains_int_int.mono _ _ _
      | exact LeO.none _
      | refine LeO.ite ?_ ?_
      | refine LeO.bind ?_ (fun _ => ?_)
theorem impl_burn.mono : ∀ a0 a1 a2 a3 k, LeO (impl_burn.f k a0 a1 a2 a3) (impl_burn.f (k + 1) a0 a1 a2 a3) := by
  intro a0 a1 a2 a3 k; obtain ⟨ih0, ih1, ih2, ih3⟩ := impl_burn.mono_l k; unfold impl_burn.f
  repeat' first
      | (with_reducible exact ih0 _ _ _ _)
      | (with_reducible exact ih1 _ _ _ _ _ _)
      | (with_reducible exact ih2 _ _ _ _ _ _ _)
      | (with_reducible exact ih3 _ _ _ _ _ _ _ _ _ _)
      | (with_reducible exact impl_Multiplicity.mono _ _ _ _ _)
      | (with_reducible exact slices_Contains_int_int.mono _ _ _)
      | (with_reducible exact LeO.refl _)
      | (with_reducible exact LeO.none _)
      | (with_reducible refine LeO.ite ?_ ?_)
      | (with_reducible refine LeO.bind ?_ (fun _ => ?_))
      | exact ih0 _ _ _ _
      | exact ih1 _ _ _ _ _ _
      | exact ih2 _ _ _ _ _ _ _
      | exact ih3 _ _ _ _ _ _ _ _ _ _
      | exact impl_Multiplicity.mono _ _ _ _ _
      | exact slices_Contains_int_int.mono _ _ _
      | exact LeO.none _
      | refine LeO.ite ?_ ?_
      | refine LeO.bind ?_ (fun _ => ?_)
end Go.Proofs.Ytjecgolakaiddaa.P
end

section
namespace Go.Proofs.Ytjecgolakaiddaa.Cf
set_option linter.unusedVariables false
set_option linter.unusedSimpArgs false
open Go.RowKit Go.Proofs.YtjecgolakaiddaaW.PrintWords Go.Proofs.YtjecgolakaiddaaW.PrintMore Go.Proofs.Ytjecgolakaiddaa.P
theorem multE_alt {n : Int} {e : E} (h : EOk n e) {a b : Int} (hab : a ≠ b) : multE a b e = if e.f0 = mn a b ∧ e.f1 = mx a b then 1 else 0 := by
  unfold EOk at h
  unfold multE mn mx
  by_cases c : b < a
  · rw [if_pos c, if_neg (show ¬ a < b by omega)]
    by_cases x : e.f0 = b ∧ e.f1 = a
    · rw [if_pos (.inr x), if_pos x]
    · rw [if_neg (by omega), if_neg x]
  · rw [if_neg c, if_pos (show a < b by omega)]
    by_cases x : e.f0 = a ∧ e.f1 = b
    · rw [if_pos (.inl x), if_pos x]
    · rw [if_neg (by omega), if_neg x]
theorem mult_self {n : Int} {es : List E} (hes : ∀ e ∈ es, EOk n e) (a : Int) : mult es a a = 0 := by
  apply sumE_zero
  intro e he
  have h := hes e he
  unfold EOk at h
  unfold multE
  rw [if_neg (by omega)]
theorem mult_drop {es : List E} {i : Nat} (h : i < es.length) (a b : Int) : mult (es.drop i) a b = multE a b es[i] + mult (es.drop (i + 1)) a b := by
  rw [List.drop_eq_getElem_cons h]
  exact sumE_cons _ _ _
theorem specMult_l0 (n : Int) (es : List E) (hes : ∀ e ∈ es, EOk n e) (hel : es.length ≤ 12) (a b : Int) (hab : a ≠ b) : ∀ (d i : Nat) (c : Int), i + d = es.length → 0 ≤ c → c ≤ i → Ep (fun k => spec_Multiplicity.l0 k a b c es (es.length : Int) (i : Int)) (· = c + mult (es.drop i) a b) := by
  intro d
  induction d with
  | zero =>
    intro i c hi h0 h1
    refine Ep.up ?_
    simp only [spec_Multiplicity.l0]
    refine Ep.neg (by omega) (Ep.now ?_)
    rw [List.drop_of_length_le (by omega)]
    simp [mult, sumE]
  | succ d ih =>
    intro i c hi h0 h1
    have hlt : i < es.length := by omega
    have hk := hes _ (List.getElem_mem hlt)
    refine Ep.up ?_
    simp only [spec_Multiplicity.l0]
    refine Ep.pos (by omega) (Ep.pos (by omega) (Ep.pos (by omega) ?_))
    rw [rdE_get hlt, wrap_succ (by omega), wrap_id (x := c + 1) (by omega) (by omega), mult_drop hlt, multE_alt hk hab]
    refine Ep.ite (fun h => Ep.ite (fun h2 => ?_) (fun h2 => ?_)) (fun h => ?_)
    · rw [if_pos ⟨h, h2⟩]
      refine (ih (i + 1) (c + 1) (by omega) (by omega) (by omega)).mono ?_
      rintro _ rfl
      omega
    · rw [if_neg (fun x => h2 x.2)]
      refine (ih (i + 1) c (by omega) (by omega) (by omega)).mono ?_
      rintro _ rfl
      omega
    · rw [if_neg (fun x => h x.1)]
      refine (ih (i + 1) c (by omega) (by omega) (by omega)).mono ?_
      rintro _ rfl
      omega
theorem l02Vert_eq (n : Int) (es : List E) (v : Int) : spec_l02Vert.f n es v = some (decide (0 ≤ v ∧ v < n)) := by
  unfold spec_l02Vert.f
  by_cases h : v ≥ 0
  · rw [if_pos h]
    have : (0 ≤ v ∧ v < n) ↔ v < n := ⟨fun x => x.2, fun x => ⟨h, x⟩⟩
    simp only [this]
  · rw [if_neg h]
    have : ¬ (0 ≤ v ∧ v < n) := fun x => h x.1
    simp only [this, decide_false]
theorem specMult (n : Int) (es : List E) (hes : ∀ e ∈ es, EOk n e) (hel : es.length ≤ 12) (a b : Int) (ha : 0 ≤ a ∧ a < n) (hb : 0 ≤ b ∧ b < n) : Ep (fun k => spec_Multiplicity.f k n es a b) (· = mult es a b) := by
  simp only [spec_Multiplicity.f]
  refine Ep.bind0 (l02Vert_eq _ _ _) (Ep.pos (by simpa using ha) (Ep.bind0 (l02Vert_eq _ _ _) (Ep.pos (by simpa using hb) ?_)))
  refine Ep.up ?_
  simp only [spec_Multiplicity.j0]
  refine Ep.ite (fun h => Ep.now ?_) (fun h => ?_)
  · have : a = b := by simpa using h
    rw [this, mult_self hes]
  · have hab : a ≠ b := by simpa using h
    refine (specMult_l0 n es hes hel a b hab es.length 0 0 (by omega) (by omega) (by omega)).mono ?_
    rintro _ rfl
    simp
end Go.Proofs.Ytjecgolakaiddaa.Cf
end

section
namespace Go.Proofs.Ytjecgolakaiddaa.P
open Go.RowKit Go.Proofs.YtjecgolakaiddaaW.PrintWords Go.Proofs.YtjecgolakaiddaaW.PrintLast Go.Proofs.YtjecgolakaiddaaW.PrintMore
attribute [local go_sem] max2_int min2_int max_two min_two max_three min_three max_four min_four
set_option linter.unusedVariables false
set_option linter.unusedSimpArgs false
mutual
def spec_FullPile.j0 : Nat → Int → Bool → Int → List (S70) → Option (List Int)
  | 0, _, _, _, _ => none
  | k + 1, x1, x17, x102000, x102001 => if x17 = true then (some ([] : List Int)) else (spec_FullPile.l0 k x1 (([] : List Int)) 0 x102000 x102001)
def spec_FullPile.l0 : Nat → Int → List Int → Int → Int → List (S70) → Option (List Int)
  | 0, _, _, _, _, _ => none
  | k + 1, x1, x5, x6, x102000, x102001 => if x6 < x102000 then (if x6 = x1 then (if x5.length < 17592186044416 then (spec_FullPile.l0 k x1 (x5 ++ [0]) (wrap64 (x6 + 1)) x102000 x102001) else (none)) else ((spec_Valence.f k x102000 x102001 x6).bind fun t110 => (if x5.length < 17592186044416 then (spec_FullPile.l0 k x1 (x5 ++ [wrap64 (t110 - 1)]) (wrap64 (x6 + 1)) x102000 x102001) else (none)))) else (some x5)
end
def spec_FullPile.f (k : Nat) (a0_0 : Int) (l0_1 : List (S70)) (a1 : Int) : Option (List Int) := (spec_GraphOk.f k a0_0 l0_1).bind fun t102 => (if t102 = true then ((spec_l01In.f a1 0 (wrap64 (a0_0 - 1))).bind fun t103 => (spec_FullPile.j0 k a1 (!t103) a0_0 l0_1)) else (spec_FullPile.j0 k a1 true a0_0 l0_1))
theorem spec_FullPile.mono_l : ∀ k, (∀ y0 y1 y2 y3, LeO (spec_FullPile.j0 k y0 y1 y2 y3) (spec_FullPile.j0 (k + 1) y0 y1 y2 y3)) ∧ (∀ y0 y1 y2 y3 y4, LeO (spec_FullPile.l0 k y0 y1 y2 y3 y4) (spec_FullPile.l0 (k + 1) y0 y1 y2 y3 y4))
  | 0 => ⟨fun _ _ _ _ r h => by simp [spec_FullPile.j0] at h, fun _ _ _ _ _ r h => by simp [spec_FullPile.l0] at h⟩
  | k + 1 => by
    obtain ⟨ih0, ih1⟩ := spec_FullPile.mono_l k
    refine ⟨?_, ?_⟩
    · intro y0 y1 y2 y3
      unfold spec_FullPile.j0
      repeat' first
      | (with_reducible exact ih0 _ _ _ _)
      | (with_reducible exact ih1 _ _ _ _ _)
      | (with_reducible exact spec_GraphOk.mono _ _ _)
      | (with_reducible exact spec_Valence.mono _ _ _ _)
      | (with_reducible exact LeO.refl _)
      | (with_reducible exact LeO.none _)
      | (with_reducible refine LeO.ite ?_ ?_)
      | (with_reducible refine LeO.bind ?_ (fun _ => ?_))
      | exact ih0 _ _ _ _
      | exact ih1 _ _ _ _ _
      | exact spec_GraphOk.mono _ _ _
      | exact spec_Valence.mono _ _ _ _
      | exact LeO.none _
      | refine LeO.ite ?_ ?_
      | refine LeO.bind ?_ (fun _ => ?_)
    · intro y0 y1 y2 y3 y4
      unfold spec_FullPile.l0
      repeat' first
      | (with_reducible exact ih0 _ _ _ _)
      | (with_reducible exact ih1 _ _ _ _ _)
      | (with_reducible exact spec_GraphOk.mono _ _ _)
      | (with_reducible exact spec_Valence.mono _ _ _ _)
      | (with_reducible exact LeO.refl _)
      | (with_reducible exact LeO.none _)
      | (with_reducible refine LeO.ite ?_ ?_)
      | (with_reducible refine LeO.bind ?_ (fun _ => ?_))
      | exact ih0 _ _ _ _
      | exact ih1 _ _ _ _ _
      | exact spec_GraphOk.mono _ _ _
      | exact spec_Valence.mono _ _ _ _
      | exact LeO.none _
      | refine LeO.ite ?_ ?_
      | refine LeO.bind ?_ (fun _ => ?_)
theorem spec_FullPile.mono : ∀ a0 a1 a2 k, LeO (spec_FullPile.f k a0 a1 a2) (spec_FullPile.f (k + 1) a0 a1 a2) := by
  intro a0 a1 a2 k; obtain ⟨ih0, ih1⟩ := spec_FullPile.mono_l k; unfold spec_FullPile.f
  repeat' first
      | (with_reducible exact ih0 _ _ _ _)
      | (with_reducible exact ih1 _ _ _ _ _)
      | (with_reducible exact spec_GraphOk.mono _ _ _)
      | (with_reducible exact spec_Valence.mono _ _ _ _)
      | (with_reducible exact LeO.refl _)
      | (with_reducible exact LeO.none _)
      | (with_reducible refine LeO.ite ?_ ?_)
      | (with_reducible refine LeO.bind ?_ (fun _ => ?_))
      | exact ih0 _ _ _ _
      | exact ih1 _ _ _ _ _
      | exact spec_GraphOk.mono _ _ _
      | exact spec_Valence.mono _ _ _ _
      | exact LeO.none _
      | refine LeO.ite ?_ ?_
      | refine LeO.bind ?_ (fun _ => ?_)
end Go.Proofs.Ytjecgolakaiddaa.P
end

section
namespace Go.Proofs.Ytjecgolakaiddaa.P
open Go.RowKit Go.Proofs.YtjecgolakaiddaaW.PrintWords Go.Proofs.YtjecgolakaiddaaW.PrintLast Go.Proofs.YtjecgolakaiddaaW.PrintMore
attribute [local go_sem] max2_int min2_int max_two min_two max_three min_three max_four min_four
set_option linter.unusedVariables false
set_option linter.unusedSimpArgs false
def impl_FullPile.l0 : Nat → Int → List Int → Int → Int → Int → List (S70) → Option (List Int)
  | 0, _, _, _, _, _, _ => none
  | k + 1, x1, x5, x15, x16, x102000, x102001 => if x16 < x15 then (if x16 = x1 then (impl_FullPile.l0 k x1 x5 x15 (wrap64 (x16 + 1)) x102000 x102001) else ((impl_Valence.f k x102000 x102001 x16).bind fun t106 => (if 0 ≤ x16 then (if x16 < (x5.length : Int) then (impl_FullPile.l0 k x1 (x5.set (x16 : Int).toNat (wrap64 (t106 - 1))) x15 (wrap64 (x16 + 1)) x102000 x102001) else (none)) else (none)))) else (some x5)
def impl_FullPile.f (k : Nat) (a0_0 : Int) (l0_1 : List (S70)) (a1 : Int) : Option (List Int) := (impl_isVertex.f a0_0 l0_1 a1).bind fun t102 => (if t102 = true then (if 0 ≤ a0_0 then (if (a0_0 : Int).toNat ≤ 35184372088832 then ((some (List.replicate (a0_0 : Int).toNat 0 : List Int)).bind fun y103 => (impl_FullPile.l0 k a1 y103 (y103.length : Int) 0 a0_0 l0_1)) else (none)) else (none)) else (some ([] : List Int)))
theorem impl_FullPile.mono_l : ∀ k, (∀ y0 y1 y2 y3 y4 y5, LeO (impl_FullPile.l0 k y0 y1 y2 y3 y4 y5) (impl_FullPile.l0 (k + 1) y0 y1 y2 y3 y4 y5))
  | 0 => fun _ _ _ _ _ _ r h => by simp [impl_FullPile.l0] at h
  | k + 1 => by
    have ih0 := impl_FullPile.mono_l k
    · intro y0 y1 y2 y3 y4 y5
      unfold impl_FullPile.l0
      repeat' first
      | (with_reducible exact ih0 _ _ _ _ _ _)
      | (with_reducible exact impl_Valence.mono _ _ _ _)
      | (with_reducible exact LeO.refl _)
      | (with_reducible exact LeO.none _)
      | (with_reducible refine LeO.ite ?_ ?_)
      | (with_reducible refine LeO.bind ?_ (fun _ => ?_))
      | exact ih0 _ _ _ _ _ _
      | exact impl_Valence.mono _ _ _ _
      | exact LeO.none _
      | refine LeO.ite ?_ ?_
      | refine LeO.bind ?_ (fun _ => ?_)
theorem impl_FullPile.mono : ∀ a0 a1 a2 k, LeO (impl_FullPile.f k a0 a1 a2) (impl_FullPile.f (k + 1) a0 a1 a2) := by
  intro a0 a1 a2 k; have ih0 := impl_FullPile.mono_l k; unfold impl_FullPile.f
  repeat' first
      | (with_reducible exact ih0 _ _ _ _ _ _)
      | (with_reducible exact impl_Valence.mono _ _ _ _)
      | (with_reducible exact LeO.refl _)
      | (with_reducible exact LeO.none _)
      | (with_reducible refine LeO.ite ?_ ?_)
      | (with_reducible refine LeO.bind ?_ (fun _ => ?_))
      | exact ih0 _ _ _ _ _ _
      | exact impl_Valence.mono _ _ _ _
      | exact LeO.none _
      | refine LeO.ite ?_ ?_
      | refine LeO.bind ?_ (fun _ => ?_)
end Go.Proofs.Ytjecgolakaiddaa.P
end

section
namespace Go.Proofs.Ytjecgolakaiddaa.Cf
set_option linter.unusedVariables false
set_option linter.unusedSimpArgs false
open Go.RowKit Go.Proofs.YtjecgolakaiddaaW.PrintWords Go.Proofs.Ytjecgolakaiddaa.P
theorem map_take_succ {α : Type} (f : Nat → α) (n i : Nat) (h : i < n) : ((List.range n).map f).take (i + 1) = ((List.range n).map f).take i ++ [f i] := by
  rw [List.take_succ_eq_append_getElem (by simpa using h)]
  simp
end Go.Proofs.Ytjecgolakaiddaa.Cf
end

section
namespace Go.Proofs.Ytjecgolakaiddaa.P
open Go.RowKit Go.Proofs.YtjecgolakaiddaaW.PrintWords Go.Proofs.YtjecgolakaiddaaW.PrintLast Go.Proofs.YtjecgolakaiddaaW.PrintMore
attribute [local go_sem] max2_int min2_int max_two min_two max_three min_three max_four min_four
set_option linter.unusedVariables false
set_option linter.unusedSimpArgs false
def impl_plus.l0 : Nat → List Int → List Int → Int → Int → Option (List Int)
  | 0, _, _, _, _ => none
  | k + 1, x1, x5, x10, x11 => if x11 < x10 then (if 0 ≤ x11 then (if x11 < (x5.length : Int) then (if x11 < (x1.length : Int) then (impl_plus.l0 k x1 (x5.set (x11 : Int).toNat (wrap64 ((rd x5 x11) + (rd x1 x11)))) x10 (wrap64 (x11 + 1))) else (none)) else (none)) else (none)) else (some x5)
def impl_plus.f (k : Nat) (l0 : List Int) (l1 : List Int) : Option (List Int) := (impl_copyInts.f l0).bind fun t101 => (impl_plus.l0 k l1 t101 (t101.length : Int) 0)
theorem impl_plus.mono_l : ∀ k, (∀ y0 y1 y2 y3, LeO (impl_plus.l0 k y0 y1 y2 y3) (impl_plus.l0 (k + 1) y0 y1 y2 y3))
  | 0 => fun _ _ _ _ r h => by simp [impl_plus.l0] at h
  | k + 1 => by
    have ih0 := impl_plus.mono_l k
    · intro y0 y1 y2 y3
      unfold impl_plus.l0
      repeat' first
      | (with_reducible exact ih0 _ _ _ _)
      | (with_reducible exact LeO.refl _)
      | (with_reducible exact LeO.none _)
      | (with_reducible refine LeO.ite ?_ ?_)
      | (with_reducible refine LeO.bind ?_ (fun _ => ?_))
      | exact ih0 _ _ _ _
      | exact LeO.none _
      | refine LeO.ite ?_ ?_
      | refine LeO.bind ?_ (fun _ => ?_)
theorem impl_plus.mono : ∀ a0 a1 k, LeO (impl_plus.f k a0 a1) (impl_plus.f (k + 1) a0 a1) := by
  intro a0 a1 k; have ih0 := impl_plus.mono_l k; unfold impl_plus.f
  repeat' first
      | (with_reducible exact ih0 _ _ _ _)
      | (with_reducible exact LeO.refl _)
      | (with_reducible exact LeO.none _)
      | (with_reducible refine LeO.ite ?_ ?_)
      | (with_reducible refine LeO.bind ?_ (fun _ => ?_))
      | exact ih0 _ _ _ _
      | exact LeO.none _
      | refine LeO.ite ?_ ?_
      | refine LeO.bind ?_ (fun _ => ?_)
end Go.Proofs.Ytjecgolakaiddaa.P
end

section
namespace Go.Proofs.Ytjecgolakaiddaa.P
open Go.RowKit Go.Proofs.YtjecgolakaiddaaW.PrintWords Go.Proofs.YtjecgolakaiddaaW.PrintLast Go.Proofs.YtjecgolakaiddaaW.PrintMore
attribute [local go_sem] max2_int min2_int max_two min_two max_three min_three max_four min_four
set_option linter.unusedVariables false
set_option linter.unusedSimpArgs false
def spec_AddDivisors.l0 : Nat → List Int → List Int → List Int → Int → Int → Option (List Int × Bool)
  | 0, _, _, _, _, _ => none
  | k + 1, x1, x6, x15, x16, x17 => if x17 < x16 then (if 0 ≤ x17 then (if x17 < (x15.length : Int) then (if x17 < (x1.length : Int) then (if x6.length < 17592186044416 then (spec_AddDivisors.l0 k x1 (x6 ++ [wrap64 ((rd x15 x17) + (rd x1 x17))]) x15 x16 (wrap64 (x17 + 1))) else (none)) else (none)) else (none)) else (none)) else (some (x6, true))
def spec_AddDivisors.f (k : Nat) (l0 : List Int) (l1 : List Int) : Option (List Int × Bool) := if (l0.length : Int) = (l1.length : Int) then (spec_AddDivisors.l0 k l1 (([] : List Int)) l0 (l0.length : Int) 0) else (some (([] : List Int), false))
theorem spec_AddDivisors.mono_l : ∀ k, (∀ y0 y1 y2 y3 y4, LeO (spec_AddDivisors.l0 k y0 y1 y2 y3 y4) (spec_AddDivisors.l0 (k + 1) y0 y1 y2 y3 y4))
  | 0 => fun _ _ _ _ _ r h => by simp [spec_AddDivisors.l0] at h
  | k + 1 => by
    have ih0 := spec_AddDivisors.mono_l k
    · intro y0 y1 y2 y3 y4
      unfold spec_AddDivisors.l0
      repeat' first
      | (with_reducible exact ih0 _ _ _ _ _)
      | (with_reducible exact LeO.refl _)
      | (with_reducible exact LeO.none _)
      | (with_reducible refine LeO.ite ?_ ?_)
      | (with_reducible refine LeO.bind ?_ (fun _ => ?_))
      | exact ih0 _ _ _ _ _
      | exact LeO.none _
      | refine LeO.ite ?_ ?_
      | refine LeO.bind ?_ (fun _ => ?_)
theorem spec_AddDivisors.mono : ∀ a0 a1 k, LeO (spec_AddDivisors.f k a0 a1) (spec_AddDivisors.f (k + 1) a0 a1) := by
  intro a0 a1 k; have ih0 := spec_AddDivisors.mono_l k; unfold spec_AddDivisors.f
  repeat' first
      | (with_reducible exact ih0 _ _ _ _ _)
      | (with_reducible exact LeO.refl _)
      | (with_reducible exact LeO.none _)
      | (with_reducible refine LeO.ite ?_ ?_)
      | (with_reducible refine LeO.bind ?_ (fun _ => ?_))
      | exact ih0 _ _ _ _ _
      | exact LeO.none _
      | refine LeO.ite ?_ ?_
      | refine LeO.bind ?_ (fun _ => ?_)
end Go.Proofs.Ytjecgolakaiddaa.P
end

section
namespace Go.Proofs.Ytjecgolakaiddaa.P
open Go.RowKit Go.Proofs.YtjecgolakaiddaaW.PrintWords Go.Proofs.YtjecgolakaiddaaW.PrintLast Go.Proofs.YtjecgolakaiddaaW.PrintMore
attribute [local go_sem] max2_int min2_int max_two min_two max_three min_three max_four min_four
set_option linter.unusedVariables false
set_option linter.unusedSimpArgs false
def spec_l07Minus.l0 : Nat → List Int → List Int → List Int → Int → Int → Option (List Int)
  | 0, _, _, _, _, _ => none
  | k + 1, x1, x5, x9, x10, x11 => if x11 < x10 then (if 0 ≤ x11 then (if x11 < (x9.length : Int) then (if x11 < (x1.length : Int) then (if x5.length < 17592186044416 then (spec_l07Minus.l0 k x1 (x5 ++ [wrap64 ((rd x9 x11) - (rd x1 x11))]) x9 x10 (wrap64 (x11 + 1))) else (none)) else (none)) else (none)) else (none)) else (some x5)
def spec_l07Minus.f (k : Nat) (l0 : List Int) (l1 : List Int) : Option (List Int) := spec_l07Minus.l0 k l1 (([] : List Int)) l0 (l0.length : Int) 0
theorem spec_l07Minus.mono_l : ∀ k, (∀ y0 y1 y2 y3 y4, LeO (spec_l07Minus.l0 k y0 y1 y2 y3 y4) (spec_l07Minus.l0 (k + 1) y0 y1 y2 y3 y4))
  | 0 => fun _ _ _ _ _ r h => by simp [spec_l07Minus.l0] at h
  | k + 1 => by
    have ih0 := spec_l07Minus.mono_l k
    · intro y0 y1 y2 y3 y4
      unfold spec_l07Minus.l0
      repeat' first
      | (with_reducible exact ih0 _ _ _ _ _)
      | (with_reducible exact LeO.refl _)
      | (with_reducible exact LeO.none _)
      | (with_reducible refine LeO.ite ?_ ?_)
      | (with_reducible refine LeO.bind ?_ (fun _ => ?_))
      | exact ih0 _ _ _ _ _
      | exact LeO.none _
      | refine LeO.ite ?_ ?_
      | refine LeO.bind ?_ (fun _ => ?_)
theorem spec_l07Minus.mono : ∀ a0 a1 k, LeO (spec_l07Minus.f k a0 a1) (spec_l07Minus.f (k + 1) a0 a1) := by
  intro a0 a1 k; have ih0 := spec_l07Minus.mono_l k; unfold spec_l07Minus.f
  repeat' first
      | (with_reducible exact ih0 _ _ _ _ _)
      | (with_reducible exact LeO.refl _)
      | (with_reducible exact LeO.none _)
      | (with_reducible refine LeO.ite ?_ ?_)
      | (with_reducible refine LeO.bind ?_ (fun _ => ?_))
      | exact ih0 _ _ _ _ _
      | exact LeO.none _
      | refine LeO.ite ?_ ?_
      | refine LeO.bind ?_ (fun _ => ?_)
end Go.Proofs.Ytjecgolakaiddaa.P
end

section
namespace Go.Proofs.Ytjecgolakaiddaa.P
open Go.RowKit Go.Proofs.YtjecgolakaiddaaW.PrintWords Go.Proofs.YtjecgolakaiddaaW.PrintLast Go.Proofs.YtjecgolakaiddaaW.PrintMore
attribute [local go_sem] max2_int min2_int max_two min_two max_three min_three max_four min_four
set_option linter.unusedVariables false
set_option linter.unusedSimpArgs false
def impl_NegateDivisor.l0 : Nat → List Int → Int → Int → Option (List Int)
  | 0, _, _, _ => none
  | k + 1, x3, x8, x9 => if x9 < x8 then (if 0 ≤ x9 then (if x9 < (x3.length : Int) then (impl_NegateDivisor.l0 k (x3.set (x9 : Int).toNat (wrap64 (-(rd x3 x9)))) x8 (wrap64 (x9 + 1))) else (none)) else (none)) else (some x3)
def impl_NegateDivisor.f (k : Nat) (l0 : List Int) : Option (List Int) := (impl_copyInts.f l0).bind fun t101 => (impl_NegateDivisor.l0 k t101 (t101.length : Int) 0)
theorem impl_NegateDivisor.mono_l : ∀ k, (∀ y0 y1 y2, LeO (impl_NegateDivisor.l0 k y0 y1 y2) (impl_NegateDivisor.l0 (k + 1) y0 y1 y2))
  | 0 => fun _ _ _ r h => by simp [impl_NegateDivisor.l0] at h
  | k + 1 => by
    have ih0 := impl_NegateDivisor.mono_l k
    · intro y0 y1 y2
      unfold impl_NegateDivisor.l0
      repeat' first
      | (with_reducible exact ih0 _ _ _)
      | (with_reducible exact LeO.refl _)
      | (with_reducible exact LeO.none _)
      | (with_reducible refine LeO.ite ?_ ?_)
      | (with_reducible refine LeO.bind ?_ (fun _ => ?_))
      | exact ih0 _ _ _
      | exact LeO.none _
      | refine LeO.ite ?_ ?_
      | refine LeO.bind ?_ (fun _ => ?_)
theorem impl_NegateDivisor.mono : ∀ a0 k, LeO (impl_NegateDivisor.f k a0) (impl_NegateDivisor.f (k + 1) a0) := by
  intro a0 k; have ih0 := impl_NegateDivisor.mono_l k; unfold impl_NegateDivisor.f
  repeat' first
      | (with_reducible exact ih0 _ _ _)
      | (with_reducible exact LeO.refl _)
      | (with_reducible exact LeO.none _)
      | (with_reducible refine LeO.ite ?_ ?_)
      | (with_reducible refine LeO.bind ?_ (fun _ => ?_))
      | exact ih0 _ _ _
      | exact LeO.none _
      | refine LeO.ite ?_ ?_
      | refine LeO.bind ?_ (fun _ => ?_)
end Go.Proofs.Ytjecgolakaiddaa.P
end

section
namespace Go.Proofs.Ytjecgolakaiddaa.P
open Go.RowKit Go.Proofs.YtjecgolakaiddaaW.PrintWords Go.Proofs.YtjecgolakaiddaaW.PrintLast Go.Proofs.YtjecgolakaiddaaW.PrintMore
attribute [local go_sem] max2_int min2_int max_two min_two max_three min_three max_four min_four
set_option linter.unusedVariables false
set_option linter.unusedSimpArgs false
def spec_NegateDivisor.l0 : Nat → List Int → List Int → Int → Int → Option (List Int)
  | 0, _, _, _, _ => none
  | k + 1, x3, x7, x8, x9 => if x9 < x8 then (if 0 ≤ x9 then (if x9 < (x7.length : Int) then (if x3.length < 17592186044416 then (spec_NegateDivisor.l0 k (x3 ++ [wrap64 (-(rd x7 x9))]) x7 x8 (wrap64 (x9 + 1))) else (none)) else (none)) else (none)) else (some x3)
def spec_NegateDivisor.f (k : Nat) (l0 : List Int) : Option (List Int) := spec_NegateDivisor.l0 k (([] : List Int)) l0 (l0.length : Int) 0
theorem spec_NegateDivisor.mono_l : ∀ k, (∀ y0 y1 y2 y3, LeO (spec_NegateDivisor.l0 k y0 y1 y2 y3) (spec_NegateDivisor.l0 (k + 1) y0 y1 y2 y3))
  | 0 => fun _ _ _ _ r h => by simp [spec_NegateDivisor.l0] at h
  | k + 1 => by
    have ih0 := spec_NegateDivisor.mono_l k
    · intro y0 y1 y2 y3
      unfold spec_NegateDivisor.l0
      repeat' first
      | (with_reducible exact ih0 _ _ _ _)
      | (with_reducible exact LeO.refl _)
      | (with_reducible exact LeO.none _)
      | (with_reducible refine LeO.ite ?_ ?_)
      | (with_reducible refine LeO.bind ?_ (fun _ => ?_))
      | exact ih0 _ _ _ _
      | exact LeO.none _
      | refine LeO.ite ?_ ?_
      | refine LeO.bind ?_ (fun _ => ?_)
theorem spec_NegateDivisor.mono : ∀ a0 k, LeO (spec_NegateDivisor.f k a0) (spec_NegateDivisor.f (k + 1) a0) := by
  intro a0 k; have ih0 := spec_NegateDivisor.mono_l k; unfold spec_NegateDivisor.f
  repeat' first
      | (with_reducible exact ih0 _ _ _ _)
      | (with_reducible exact LeO.refl _)
      | (with_reducible exact LeO.none _)
      | (with_reducible refine LeO.ite ?_ ?_)
      | (with_reducible refine LeO.bind ?_ (fun _ => ?_))
      | exact ih0 _ _ _ _
      | exact LeO.none _
      | refine LeO.ite ?_ ?_
      | refine LeO.bind ?_ (fun _ => ?_)
end Go.Proofs.Ytjecgolakaiddaa.P
end

section
namespace Go.Proofs.Ytjecgolakaiddaa.Cf
set_option linter.unusedVariables false
set_option linter.unusedSimpArgs false
open Go.RowKit Go.Proofs.YtjecgolakaiddaaW.PrintWords Go.Proofs.Ytjecgolakaiddaa.P
theorem repL_take {n i : Nat} (f : Int → Int) (h : i < n) : (repL n f).take (i + 1) = (repL n f).take i ++ [f (i : Int)] := by
  unfold repL
  exact map_take_succ (fun j : Nat => f (j : Int)) n i h
theorem equal_l0 (x0 x1 : List Int) (h : x0.length ≤ 1048576) (hl : x0.length = x1.length) : ∀ (d i : Nat), i + d = x0.length → (∀ j, j < i → x0[j]? = x1[j]?) → Ep (fun k => slices_Equal_int_int.l0 k x0 x1 (x0.length : Int) (i : Int)) (· = decide (x0 = x1)) := by
  intro d
  induction d with
  | zero =>
    intro i hi hx
    refine Ep.up ?_
    simp only [slices_Equal_int_int.l0]
    refine Ep.neg (by omega) (Ep.now ?_)
    have : x0 = x1 := by
      apply List.ext_getElem?
      intro j
      by_cases hj : j < i
      · exact hx j hj
      · rw [List.getElem?_eq_none (by omega), List.getElem?_eq_none (by omega)]
    simp [this]
  | succ d ih =>
    intro i hi hx
    refine Ep.up ?_
    simp only [slices_Equal_int_int.l0]
    refine Ep.pos (by omega) (Ep.pos (by omega) (Ep.pos (by omega) (Ep.pos (by omega) ?_)))
    rw [rd_get (show i < x0.length by omega), rd_get (show i < x1.length by omega), wrap_succ (by omega)]
    refine Ep.ite (fun e => ?_) (fun e => Ep.now ?_)
    · refine ih (i + 1) (by omega) ?_
      intro j hj
      by_cases ej : j = i
      · subst ej
        rw [List.getElem?_eq_getElem (by omega), List.getElem?_eq_getElem (by omega), e]
      · exact hx j (by omega)
    · have : x0 ≠ x1 := by
        rintro rfl
        exact e rfl
      simp [this]
theorem implSame (x0 x1 : List Int) (h : x0.length ≤ 1048576) : Ep (fun k => impl_SameDivisor.f k x0 x1) (· = decide (x0 = x1)) := by
  simp only [impl_SameDivisor.f, slices_Equal_int_int.f]
  refine Ep.bind (P := (· = decide (x0 = x1))) ?_ ?_
  · refine Ep.ite (fun e => equal_l0 x0 x1 h (by omega) x0.length 0 (by omega) (fun j hj => by omega)) (fun e => Ep.now ?_)
    have : x0 ≠ x1 := by
      rintro rfl
      exact e rfl
    simp [this]
  · rintro _ rfl
    exact Ep.now rfl
theorem specSame_l0 (x0 x1 : List Int) (h : x0.length ≤ 1048576) (hl : x0.length = x1.length) : ∀ (d i : Nat), i + d = x0.length → (∀ j, j < i → x0[j]? = x1[j]?) → Ep (fun k => spec_SameDivisor.l0 k x1 x0 (x0.length : Int) (i : Int)) (· = decide (x0 = x1)) := by
  intro d
  induction d with
  | zero =>
    intro i hi hx
    refine Ep.up ?_
    simp only [spec_SameDivisor.l0]
    refine Ep.neg (by omega) (Ep.now ?_)
    have : x0 = x1 := by
      apply List.ext_getElem?
      intro j
      by_cases hj : j < i
      · exact hx j hj
      · rw [List.getElem?_eq_none (by omega), List.getElem?_eq_none (by omega)]
    simp [this]
  | succ d ih =>
    intro i hi hx
    refine Ep.up ?_
    simp only [spec_SameDivisor.l0]
    refine Ep.pos (by omega) (Ep.pos (by omega) (Ep.pos (by omega) (Ep.pos (by omega) ?_)))
    rw [rd_get (show i < x0.length by omega), rd_get (show i < x1.length by omega), wrap_succ (by omega)]
    refine Ep.ite (fun e => ?_) (fun e => Ep.now ?_)
    · refine ih (i + 1) (by omega) ?_
      intro j hj
      by_cases ej : j = i
      · subst ej
        rw [List.getElem?_eq_getElem (by omega), List.getElem?_eq_getElem (by omega), e]
      · exact hx j (by omega)
    · have : x0 ≠ x1 := by
        rintro rfl
        exact e rfl
      simp [this]
theorem specSame (x0 x1 : List Int) (h : x0.length ≤ 1048576) : Ep (fun k => spec_SameDivisor.f k x0 x1) (· = decide (x0 = x1)) := by
  simp only [spec_SameDivisor.f]
  refine Ep.ite (fun e => specSame_l0 x0 x1 h (by omega) x0.length 0 (by omega) (fun j hj => by omega)) (fun e => Ep.now ?_)
  have : x0 ≠ x1 := by
    rintro rfl
    exact e rfl
  simp [this]
end Go.Proofs.Ytjecgolakaiddaa.Cf
end

section
namespace Go.Proofs.Ytjecgolakaiddaa.P
open Go.RowKit Go.Proofs.YtjecgolakaiddaaW.PrintWords Go.Proofs.YtjecgolakaiddaaW.PrintLast Go.Proofs.YtjecgolakaiddaaW.PrintMore
attribute [local go_sem] max2_int min2_int max_two min_two max_three min_three max_four min_four
set_option linter.unusedVariables false
set_option linter.unusedSimpArgs false
def impl_oneAt.f (a0_0 : Int) (l0_1 : List (S70)) (a1 : Int) (a2 : Int) : Option (List Int) := if 0 ≤ a0_0 then (if (a0_0 : Int).toNat ≤ 35184372088832 then ((some (List.replicate (a0_0 : Int).toNat 0 : List Int)).bind fun y102 => (if 0 ≤ a1 then (if a1 < (y102.length : Int) then (some (y102.set (a1 : Int).toNat a2)) else (none)) else (none))) else (none)) else (none)
end Go.Proofs.Ytjecgolakaiddaa.P
end

section
namespace Go.Proofs.Ytjecgolakaiddaa.P
open Go.RowKit Go.Proofs.YtjecgolakaiddaaW.PrintWords Go.Proofs.YtjecgolakaiddaaW.PrintLast Go.Proofs.YtjecgolakaiddaaW.PrintMore
attribute [local go_sem] max2_int min2_int max_two min_two max_three min_three max_four min_four
set_option linter.unusedVariables false
set_option linter.unusedSimpArgs false
def spec_SumOfPiles.j0 : Nat → List Int → List Int → Int → Bool → Int → List (S70) → Option (List Int × Bool)
  | 0, _, _, _, _, _, _ => none
  | k + 1, x1, x2, x3, x26, x102000, x102001 => if x26 = true then (some (([] : List Int), false)) else ((spec_AddDivisors.f k x1 x2).bind fun bt104 => ((spec_Stabilize.f k x102000 x102001 bt104.1 x3).bind fun bt108 => (some (bt108.1, bt108.2.2))))
def spec_SumOfPiles.f (k : Nat) (a0_0 : Int) (l0_1 : List (S70)) (l1 : List Int) (l2 : List Int) (a3 : Int) : Option (List Int × Bool) := (spec_PileOk.f k a0_0 l0_1 l1 a3).bind fun t102 => (if t102 = true then ((spec_PileOk.f k a0_0 l0_1 l2 a3).bind fun t103 => (spec_SumOfPiles.j0 k l1 l2 a3 (!t103) a0_0 l0_1)) else (spec_SumOfPiles.j0 k l1 l2 a3 true a0_0 l0_1))
theorem spec_SumOfPiles.mono_l : ∀ k, (∀ y0 y1 y2 y3 y4 y5, LeO (spec_SumOfPiles.j0 k y0 y1 y2 y3 y4 y5) (spec_SumOfPiles.j0 (k + 1) y0 y1 y2 y3 y4 y5))
  | 0 => fun _ _ _ _ _ _ r h => by simp [spec_SumOfPiles.j0] at h
  | k + 1 => by
    have ih0 := spec_SumOfPiles.mono_l k
    · intro y0 y1 y2 y3 y4 y5
      unfold spec_SumOfPiles.j0
      repeat' first
      | (with_reducible exact ih0 _ _ _ _ _ _)
      | (with_reducible exact spec_AddDivisors.mono _ _ _)
      | (with_reducible exact spec_PileOk.mono _ _ _ _ _)
      | (with_reducible exact spec_Stabilize.mono _ _ _ _ _)
      | (with_reducible exact LeO.refl _)
      | (with_reducible exact LeO.none _)
      | (with_reducible refine LeO.ite ?_ ?_)
      | (with_reducible refine LeO.bind ?_ (fun _ => ?_))
      | exact ih0 _ _ _ _ _ _
      | exact spec_AddDivisors.mono _ _ _
      | exact spec_PileOk.mono _ _ _ _ _
      | exact spec_Stabilize.mono _ _ _ _ _
      | exact LeO.none _
      | refine LeO.ite ?_ ?_
      | refine LeO.bind ?_ (fun _ => ?_)
theorem spec_SumOfPiles.mono : ∀ a0 a1 a2 a3 a4 k, LeO (spec_SumOfPiles.f k a0 a1 a2 a3 a4) (spec_SumOfPiles.f (k + 1) a0 a1 a2 a3 a4) := by
  intro a0 a1 a2 a3 a4 k; have ih0 := spec_SumOfPiles.mono_l k; unfold spec_SumOfPiles.f
  repeat' first
      | (with_reducible exact ih0 _ _ _ _ _ _)
      | (with_reducible exact spec_AddDivisors.mono _ _ _)
      | (with_reducible exact spec_PileOk.mono _ _ _ _ _)
      | (with_reducible exact spec_Stabilize.mono _ _ _ _ _)
      | (with_reducible exact LeO.refl _)
      | (with_reducible exact LeO.none _)
      | (with_reducible refine LeO.ite ?_ ?_)
      | (with_reducible refine LeO.bind ?_ (fun _ => ?_))
      | exact ih0 _ _ _ _ _ _
      | exact spec_AddDivisors.mono _ _ _
      | exact spec_PileOk.mono _ _ _ _ _
      | exact spec_Stabilize.mono _ _ _ _ _
      | exact LeO.none _
      | refine LeO.ite ?_ ?_
      | refine LeO.bind ?_ (fun _ => ?_)
end Go.Proofs.Ytjecgolakaiddaa.P
end

section
namespace Go.Proofs.Ytjecgolakaiddaa.P
open Go.RowKit Go.Proofs.YtjecgolakaiddaaW.PrintWords Go.Proofs.YtjecgolakaiddaaW.PrintLast Go.Proofs.YtjecgolakaiddaaW.PrintMore
attribute [local go_sem] max2_int min2_int max_two min_two max_three min_three max_four min_four
set_option linter.unusedVariables false
set_option linter.unusedSimpArgs false
def impl_SumOfPiles.j0 : Nat → List Int → List Int → Int → Bool → Int → List (S70) → Option (List Int × Bool)
  | 0, _, _, _, _, _, _ => none
  | k + 1, x1, x2, x3, x32, x102000, x102001 => if x32 = true then (some (([] : List Int), false)) else ((impl_plus.f k x1 x2).bind fun t108 => ((impl_stabilize.f k x102000 x102001 t108 x3).bind fun bt111 => (some (bt111.1, true))))
def impl_SumOfPiles.f (k : Nat) (a0_0 : Int) (l0_1 : List (S70)) (l1 : List Int) (l2 : List Int) (a3 : Int) : Option (List Int × Bool) := (impl_PileOk.f k a0_0 l0_1 l1 a3).bind fun t102 => (if t102 = true then ((impl_PileOk.f k a0_0 l0_1 l2 a3).bind fun t103 => (if t103 = true then ((impl_plus.f k l1 l2).bind fun t104 => ((impl_PileOk.f k a0_0 l0_1 t104 a3).bind fun t107 => (impl_SumOfPiles.j0 k l1 l2 a3 (!t107) a0_0 l0_1))) else (impl_SumOfPiles.j0 k l1 l2 a3 true a0_0 l0_1))) else (impl_SumOfPiles.j0 k l1 l2 a3 true a0_0 l0_1))
theorem impl_SumOfPiles.mono_l : ∀ k, (∀ y0 y1 y2 y3 y4 y5, LeO (impl_SumOfPiles.j0 k y0 y1 y2 y3 y4 y5) (impl_SumOfPiles.j0 (k + 1) y0 y1 y2 y3 y4 y5))
  | 0 => fun _ _ _ _ _ _ r h => by simp [impl_SumOfPiles.j0] at h
  | k + 1 => by
    have ih0 := impl_SumOfPiles.mono_l k
    · intro y0 y1 y2 y3 y4 y5
      unfold impl_SumOfPiles.j0
      repeat' first
      | (with_reducible exact ih0 _ _ _ _ _ _)
      | (with_reducible exact impl_PileOk.mono _ _ _ _ _)
      | (with_reducible exact impl_plus.mono _ _ _)
      | (with_reducible exact impl_stabilize.mono _ _ _ _ _)
      | (with_reducible exact LeO.refl _)
      | (with_reducible exact LeO.none _)
      | (with_reducible refine LeO.ite ?_ ?_)
      | (with_reducible refine LeO.bind ?_ (fun _ => ?_))
      | exact ih0 _ _ _ _ _ _
      | exact impl_PileOk.mono _ _ _ _ _
      | exact impl_plus.mono _ _ _
      | exact impl_stabilize.mono _ _ _ _ _
      | exact LeO.none _
      | refine LeO.ite ?_ ?_
      | refine LeO.bind ?_ (fun _ => ?_)
theorem impl_SumOfPiles.mono : ∀ a0 a1 a2 a3 a4 k, LeO (impl_SumOfPiles.f k a0 a1 a2 a3 a4) (impl_SumOfPiles.f (k + 1) a0 a1 a2 a3 a4) := by
  intro a0 a1 a2 a3 a4 k; have ih0 := impl_SumOfPiles.mono_l k; unfold impl_SumOfPiles.f
  repeat' first
      | (with_reducible exact ih0 _ _ _ _ _ _)
      | (with_reducible exact impl_PileOk.mono _ _ _ _ _)
      | (with_reducible exact impl_plus.mono _ _ _)
      | (with_reducible exact impl_stabilize.mono _ _ _ _ _)
      | (with_reducible exact LeO.refl _)
      | (with_reducible exact LeO.none _)
      | (with_reducible refine LeO.ite ?_ ?_)
      | (with_reducible refine LeO.bind ?_ (fun _ => ?_))
      | exact ih0 _ _ _ _ _ _
      | exact impl_PileOk.mono _ _ _ _ _
      | exact impl_plus.mono _ _ _
      | exact impl_stabilize.mono _ _ _ _ _
      | exact LeO.none _
      | refine LeO.ite ?_ ?_
      | refine LeO.bind ?_ (fun _ => ?_)
end Go.Proofs.Ytjecgolakaiddaa.P
end

section
namespace Go.Proofs.Ytjecgolakaiddaa.Cf
set_option linter.unusedVariables false
set_option linter.unusedSimpArgs false
open Go.RowKit Go.Proofs.YtjecgolakaiddaaW.PrintWords Go.Proofs.Ytjecgolakaiddaa.P
theorem Bd.of60 {p : List Int} (h : ∀ x ∈ p, -60 ≤ x ∧ x ≤ 60) : Bd p 60 := fun w h0 h1 => by
  obtain ⟨i, rfl⟩ := Int.eq_ofNat_of_zero_le h0
  have hi : i < p.length := by omega
  rw [rd_get hi]
  exact h _ (List.getElem_mem hi)
theorem pOk_all {n : Int} {es : List E} {p : List Int} {q : Int} (h : pOk n es p q = true) : ∃ m : Nat, n = m ∧ Gr m es q ∧ Pre m q p ∧ Bd p 60 ∧ Mod p := by
  obtain ⟨m, rfl, g, hp⟩ := pOk_pre h
  obtain ⟨⟨_, _, h3⟩, _⟩ := pOk_iff.1 h
  exact ⟨m, rfl, g, hp, Bd.of60 h3, fun x hx => by have := h3 x hx; omega⟩
theorem sOk_pOk {n : Int} {es : List E} {p : List Int} {q : Int} (h : sOk n es p q = true) : pOk n es p q = true := by
  unfold sOk at h
  rw [Bool.and_eq_true] at h
  exact h.1
/-- Each vertex but q toppled once. -/
def onesF (q : Int) (c : List Int) : Nat → Nat → Bool
  | 0, _ => true
  | d + 1, i => if (i : Int) = q then onesF q c d (i + 1) else if rd c i = 1 then onesF q c d (i + 1) else false
/-- The sink is lit. -/
def litL (n : Nat) (es : List E) (q : Int) (p : List Int) : List Int := repL n fun w => rd p w + mult es q w
theorem litL_pre {n : Nat} {es : List E} {q : Int} (g : Gr n es q) {p : List Int} (hp : Pre n q p) (hb : Bd p 60) : Pre n q (litL n es q p) where
  len := repL_len _ _
  bd := fun v v0 v1 v2 => by
    have e : rd (litL n es q p) v = rd p v + mult es q v := (repL_rep n _).2 v v0 v1
    have h0 := mult_nonneg es q v
    have h1 := mult_le es q v
    have h2 := hp.bd v v0 v1 v2
    have h3 := hb v v0 (by have := hp.len; omega)
    have := g.hel
    omega
  at_q := by
    have e : rd (litL n es q p) q = rd p q + mult es q q := (repL_rep n _).2 q g.hq.1 g.hq.2
    rw [e, hp.at_q, mult_self g.hes]
    rfl
noncomputable def isR (n : Nat) (es : List E) (q : Int) (p : List Int) : Bool := if onesF q (settleS n es q (litL n es q p)).2 (settleS n es q (litL n es q p)).2.length 0 = true then decide ((settleS n es q (litL n es q p)).1 = p) else false
noncomputable def recB (n : Int) (es : List E) (p : List Int) (q : Int) : Bool := sOk n es p q && isR n.toNat es q p
theorem specLit_l0 {n : Nat} {es : List E} {q : Int} (g : Gr n es q) {p : List Int} (hp : Pre n q p) (hb : Bd p 60) : ∀ (d i : Nat), i + d = n → Ep (fun k => spec_l11Lit.l0 k q ((litL n es q p).take i) p (n : Int) (i : Int) (n : Int) es) (· = litL n es q p) := by
  have hn := g.n6
  have hel := g.hel
  have hq := g.hq
  have hpl := hp.len
  have hL : (litL n es q p).length = n := repL_len _ _
  intro d
  induction d with
  | zero =>
    intro i hi
    refine Ep.up ?_
    simp only [spec_l11Lit.l0]
    refine Ep.neg (by omega) (Ep.now ?_)
    rw [List.take_of_length_le (by omega)]
  | succ d ih =>
    intro i hi
    have h1 := hb i (by omega) (by omega)
    have h2 := mult_nonneg es q i
    have h3 := mult_le es q i
    have hlen : ((litL n es q p).take i).length < 17592186044416 := by rw [List.length_take]; omega
    have ih' := ih (i + 1) (by omega)
    have ht : (litL n es q p).take (i + 1) = (litL n es q p).take i ++ [rd p (i : Int) + mult es q (i : Int)] := repL_take _ (by omega)
    rw [ht] at ih'
    refine Ep.up ?_
    simp only [spec_l11Lit.l0]
    rw [wrap_succ (by omega)]
    refine Ep.pos (by omega) (Ep.pos (by omega) (Ep.pos (by omega) (Ep.bind (specMult n es g.hes hel q i hq (by omega)) ?_)))
    rintro _ rfl
    rw [wrap_id (x := rd p (i : Int) + mult es q (i : Int)) (by omega) (by omega)]
    exact Ep.pos hlen ih'
theorem specLit {n : Nat} {es : List E} {q : Int} (g : Gr n es q) {p : List Int} (hp : Pre n q p) (hb : Bd p 60) : Ep (fun k => spec_l11Lit.f k (n : Int) es p q) (· = litL n es q p) := by
  simp only [spec_l11Lit.f]
  have := specLit_l0 g hp hb n 0 (by omega)
  rw [hp.len]
  simpa using this
theorem specRec_l0 (q : Int) (p x c : List Int) (hx : x.length ≤ 1048576) (hc : c.length ≤ 1048576) : ∀ (d i : Nat), i + d = c.length → Ep (fun k => spec_IsRecurrent.l0 k p q x c (c.length : Int) (i : Int)) (· = if onesF q c d i = true then decide (x = p) else false) := by
  intro d
  induction d with
  | zero =>
    intro i hi
    refine Ep.up ?_
    simp only [spec_IsRecurrent.l0]
    refine Ep.neg (by omega) (Ep.bind (specSame x p hx) ?_)
    rintro _ rfl
    exact Ep.now rfl
  | succ d ih =>
    intro i hi
    refine Ep.up ?_
    simp only [spec_IsRecurrent.l0]
    rw [wrap_succ (by omega)]
    unfold onesF
    refine Ep.pos (by omega) (Ep.pos (by omega) (Ep.pos (by omega) (Ep.ite (fun h => ?_) (fun h => Ep.ite (fun h2 => ?_) (fun h2 => Ep.now ?_)))))
    · rw [if_pos h]
      exact ih (i + 1) (by omega)
    · rw [if_neg h, if_pos h2]
      exact ih (i + 1) (by omega)
    · rw [if_neg h, if_neg h2]
      rfl
theorem implRec_l0 (q : Int) (p x c : List Int) (hx : x.length ≤ 1048576) (hc : c.length ≤ 1048576) : ∀ (d i : Nat), i + d = c.length → Ep (fun k => impl_IsRecurrent.l0 k p q x c (c.length : Int) (i : Int)) (· = if onesF q c d i = true then decide (x = p) else false) := by
  intro d
  induction d with
  | zero =>
    intro i hi
    refine Ep.up ?_
    simp only [impl_IsRecurrent.l0]
    refine Ep.neg (by omega) (Ep.bind (implSame x p hx) ?_)
    rintro _ rfl
    exact Ep.now rfl
  | succ d ih =>
    intro i hi
    refine Ep.up ?_
    simp only [impl_IsRecurrent.l0]
    rw [wrap_succ (by omega)]
    unfold onesF
    refine Ep.pos (by omega) (Ep.pos (by omega) (Ep.pos (by omega) (Ep.ite (fun h => ?_) (fun h => Ep.ite (fun h2 => ?_) (fun h2 => Ep.now ?_)))))
    · rw [if_pos h]
      exact ih (i + 1) (by omega)
    · rw [if_neg h, if_pos h2]
      exact ih (i + 1) (by omega)
    · rw [if_neg h, if_neg h2]
      rfl
theorem specRecur (n : Int) (es : List E) (p : List Int) (q : Int) (hel : es.length ≤ 1048576) (hl : p.length ≤ 1048576) : Ep (fun k => spec_IsRecurrent.f k n es p q) (· = recB n es p q) := by
  simp only [spec_IsRecurrent.f, recB]
  refine Ep.bind (specStable n es p q hel hl) ?_
  rintro _ rfl
  refine Ep.ite (fun h => ?_) (fun h => Ep.now ?_)
  · obtain ⟨m, rfl, g, hp, hb, _⟩ := pOk_all (sOk_pOk h)
    rw [h]
    have hlen := settleS_len es q (litL m es q p) g.n6
    refine Ep.bind (specLit g hp hb) ?_
    rintro _ rfl
    refine Ep.bind (specSettle g (litL_pre g hp hb)) ?_
    rintro _ rfl
    refine (specRec_l0 q p _ _ (by omega) (by omega) (settleS m es q (litL m es q p)).2.length 0 (by omega)).mono ?_
    rintro _ rfl
    rfl
  · have : sOk n es p q = false := by simpa using h
    rw [this]
    rfl
theorem implRecur (n : Int) (es : List E) (p : List Int) (q : Int) (hel : es.length ≤ 1048576) (hl : p.length ≤ 1048576) : Ep (fun k => impl_IsRecurrent.f k n es p q) (· = recB n es p q) := by
  simp only [impl_IsRecurrent.f, recB]
  refine Ep.bind (implStable n es p q hel hl) ?_
  rintro _ rfl
  refine Ep.ite (fun h => ?_) (fun h => Ep.now ?_)
  · obtain ⟨m, rfl, g, hp, hb, _⟩ := pOk_all (sOk_pOk h)
    rw [h]
    have hpl := hp.len
    have hq := g.hq
    have hlen := settleS_len es q (litL m es q p) g.n6
    refine Ep.bind0 (copy_eq p hl) ?_
    refine Ep.bind (implFire m es g.hes g.hel p q 1 hpl hq (B := 60) (K := 1) ⟨by omega, by omega⟩ hb (by omega) (by omega)) ?_
    rintro r ⟨hr, _⟩
    have hr' := hr.rep hpl
    refine Ep.pos (by omega) (Ep.pos (by omega) ?_)
    have e : r.set q.toNat 0 = litL m es q p := ((hr'.set hq.1 hq.2 0).congr (t := fun w => rd p w + mult es q w) fun w w0 w1 => by
      by_cases c : w = q
      · rw [if_pos c, c, hp.at_q, mult_self g.hes]; rfl
      · rw [if_neg c, lap_one_ne g.hes c]; omega).eq
    rw [e]
    refine Ep.bind (implStab g (litL_pre g hp hb)) ?_
    rintro _ rfl
    refine (implRec_l0 q p _ _ (by omega) (by omega) (settleS m es q (litL m es q p)).2.length 0 (by omega)).mono ?_
    rintro _ rfl
    rfl
  · have : sOk n es p q = false := by simpa using h
    rw [this]
    rfl
theorem recB_pOk {n : Int} {es : List E} {p : List Int} {q : Int} (h : recB n es p q = true) : pOk n es p q = true := by
  unfold recB at h
  rw [Bool.and_eq_true] at h
  exact sOk_pOk h.1
end Go.Proofs.Ytjecgolakaiddaa.Cf
end

section
namespace Go.Proofs.Ytjecgolakaiddaa.P
open Go.RowKit Go.Proofs.YtjecgolakaiddaaW.PrintWords Go.Proofs.YtjecgolakaiddaaW.PrintLast Go.Proofs.YtjecgolakaiddaaW.PrintMore
attribute [local go_sem] max2_int min2_int max_two min_two max_three min_three max_four min_four
set_option linter.unusedVariables false
set_option linter.unusedSimpArgs false
def spec_DropChip.j0 : Nat → List Int → Int → Int → Bool → Int → List (S70) → Option (List Int × Int × Bool)
  | 0, _, _, _, _, _, _ => none
  | k + 1, x1, x2, x3, x31, x102000, x102001 => if x31 = true then (some (([] : List Int), 0, false)) else ((some (([] : List Int) : List Int)).bind fun y104 => (if y104.length + x1.length < 17592186044416 then ((some (y104 ++ x1 : List Int)).bind fun y107 => (if 0 ≤ x3 then (if x3 < (y107.length : Int) then ((spec_l10Settle.f k x102000 x102001 (y107.set (x3 : Int).toNat (wrap64 ((rd y107 x3) + 1))) x2).bind fun bt112 => ((spec_DegreeOf.f k bt112.2).bind fun t118 => (some (bt112.1, t118, true)))) else (none)) else (none))) else (none)))
def spec_DropChip.f (k : Nat) (a0_0 : Int) (l0_1 : List (S70)) (l1 : List Int) (a2 : Int) (a3 : Int) : Option (List Int × Int × Bool) := (spec_IsStable.f k a0_0 l0_1 l1 a2).bind fun t102 => (if t102 = true then (if a3 = a2 then (spec_DropChip.j0 k l1 a2 a3 true a0_0 l0_1) else ((spec_l01In.f a3 0 (wrap64 (a0_0 - 1))).bind fun t103 => (spec_DropChip.j0 k l1 a2 a3 (!t103) a0_0 l0_1))) else (spec_DropChip.j0 k l1 a2 a3 true a0_0 l0_1))
theorem spec_DropChip.mono_l : ∀ k, (∀ y0 y1 y2 y3 y4 y5, LeO (spec_DropChip.j0 k y0 y1 y2 y3 y4 y5) (spec_DropChip.j0 (k + 1) y0 y1 y2 y3 y4 y5))
  | 0 => fun _ _ _ _ _ _ r h => by simp [spec_DropChip.j0] at h
  | k + 1 => by
    have ih0 := spec_DropChip.mono_l k
    · intro y0 y1 y2 y3 y4 y5
      unfold spec_DropChip.j0
      repeat' first
      | (with_reducible exact ih0 _ _ _ _ _ _)
      | (with_reducible exact spec_DegreeOf.mono _ _)
      | (with_reducible exact spec_IsStable.mono _ _ _ _ _)
      | (with_reducible exact spec_l10Settle.mono _ _ _ _ _)
      | (with_reducible exact LeO.refl _)
      | (with_reducible exact LeO.none _)
      | (with_reducible refine LeO.ite ?_ ?_)
      | (with_reducible refine LeO.bind ?_ (fun _ => ?_))
      | exact ih0 _ _ _ _ _ _
      | exact spec_DegreeOf.mono _ _
      | exact spec_IsStable.mono _ _ _ _ _
      | exact spec_l10Settle.mono _ _ _ _ _
      | exact LeO.none _
      | refine LeO.ite ?_ ?_
      | refine LeO.bind ?_ (fun _ => ?_)
theorem spec_DropChip.mono : ∀ a0 a1 a2 a3 a4 k, LeO (spec_DropChip.f k a0 a1 a2 a3 a4) (spec_DropChip.f (k + 1) a0 a1 a2 a3 a4) := by
  intro a0 a1 a2 a3 a4 k; have ih0 := spec_DropChip.mono_l k; unfold spec_DropChip.f
  repeat' first
      | (with_reducible exact ih0 _ _ _ _ _ _)
      | (with_reducible exact spec_DegreeOf.mono _ _)
      | (with_reducible exact spec_IsStable.mono _ _ _ _ _)
      | (with_reducible exact spec_l10Settle.mono _ _ _ _ _)
      | (with_reducible exact LeO.refl _)
      | (with_reducible exact LeO.none _)
      | (with_reducible refine LeO.ite ?_ ?_)
      | (with_reducible refine LeO.bind ?_ (fun _ => ?_))
      | exact ih0 _ _ _ _ _ _
      | exact spec_DegreeOf.mono _ _
      | exact spec_IsStable.mono _ _ _ _ _
      | exact spec_l10Settle.mono _ _ _ _ _
      | exact LeO.none _
      | refine LeO.ite ?_ ?_
      | refine LeO.bind ?_ (fun _ => ?_)
end Go.Proofs.Ytjecgolakaiddaa.P
end

section
namespace Go.Proofs.Ytjecgolakaiddaa.P
open Go.RowKit Go.Proofs.YtjecgolakaiddaaW.PrintWords Go.Proofs.YtjecgolakaiddaaW.PrintLast Go.Proofs.YtjecgolakaiddaaW.PrintMore
attribute [local go_sem] max2_int min2_int max_two min_two max_three min_three max_four min_four
set_option linter.unusedVariables false
set_option linter.unusedSimpArgs false
def impl_DropChip.j0 : Nat → List Int → Int → Int → Bool → Int → List (S70) → Option (List Int × Int × Bool)
  | 0, _, _, _, _, _, _ => none
  | k + 1, x1, x2, x3, x30, x102000, x102001 => if x30 = true then (some (([] : List Int), 0, false)) else ((impl_oneAt.f x102000 x102001 x3 1).bind fun t104 => ((impl_plus.f k x1 t104).bind fun t107 => ((impl_stabilize.f k x102000 x102001 t107 x2).bind fun bt110 => ((impl_sumOf.f k bt110.2).bind fun t116 => (some (bt110.1, t116, true))))))
def impl_DropChip.f (k : Nat) (a0_0 : Int) (l0_1 : List (S70)) (l1 : List Int) (a2 : Int) (a3 : Int) : Option (List Int × Int × Bool) := (impl_IsStable.f k a0_0 l0_1 l1 a2).bind fun t102 => (if t102 = true then (if a3 = a2 then (impl_DropChip.j0 k l1 a2 a3 true a0_0 l0_1) else ((impl_within.f a3 0 (wrap64 (a0_0 - 1))).bind fun t103 => (impl_DropChip.j0 k l1 a2 a3 (!t103) a0_0 l0_1))) else (impl_DropChip.j0 k l1 a2 a3 true a0_0 l0_1))
theorem impl_DropChip.mono_l : ∀ k, (∀ y0 y1 y2 y3 y4 y5, LeO (impl_DropChip.j0 k y0 y1 y2 y3 y4 y5) (impl_DropChip.j0 (k + 1) y0 y1 y2 y3 y4 y5))
  | 0 => fun _ _ _ _ _ _ r h => by simp [impl_DropChip.j0] at h
  | k + 1 => by
    have ih0 := impl_DropChip.mono_l k
    · intro y0 y1 y2 y3 y4 y5
      unfold impl_DropChip.j0
      repeat' first
      | (with_reducible exact ih0 _ _ _ _ _ _)
      | (with_reducible exact impl_IsStable.mono _ _ _ _ _)
      | (with_reducible exact impl_plus.mono _ _ _)
      | (with_reducible exact impl_stabilize.mono _ _ _ _ _)
      | (with_reducible exact impl_sumOf.mono _ _)
      | (with_reducible exact LeO.refl _)
      | (with_reducible exact LeO.none _)
      | (with_reducible refine LeO.ite ?_ ?_)
      | (with_reducible refine LeO.bind ?_ (fun _ => ?_))
      | exact ih0 _ _ _ _ _ _
      | exact impl_IsStable.mono _ _ _ _ _
      | exact impl_plus.mono _ _ _
      | exact impl_stabilize.mono _ _ _ _ _
      | exact impl_sumOf.mono _ _
      | exact LeO.none _
      | refine LeO.ite ?_ ?_
      | refine LeO.bind ?_ (fun _ => ?_)
theorem impl_DropChip.mono : ∀ a0 a1 a2 a3 a4 k, LeO (impl_DropChip.f k a0 a1 a2 a3 a4) (impl_DropChip.f (k + 1) a0 a1 a2 a3 a4) := by
  intro a0 a1 a2 a3 a4 k; have ih0 := impl_DropChip.mono_l k; unfold impl_DropChip.f
  repeat' first
      | (with_reducible exact ih0 _ _ _ _ _ _)
      | (with_reducible exact impl_IsStable.mono _ _ _ _ _)
      | (with_reducible exact impl_plus.mono _ _ _)
      | (with_reducible exact impl_stabilize.mono _ _ _ _ _)
      | (with_reducible exact impl_sumOf.mono _ _)
      | (with_reducible exact LeO.refl _)
      | (with_reducible exact LeO.none _)
      | (with_reducible refine LeO.ite ?_ ?_)
      | (with_reducible refine LeO.bind ?_ (fun _ => ?_))
      | exact ih0 _ _ _ _ _ _
      | exact impl_IsStable.mono _ _ _ _ _
      | exact impl_plus.mono _ _ _
      | exact impl_stabilize.mono _ _ _ _ _
      | exact impl_sumOf.mono _ _
      | exact LeO.none _
      | refine LeO.ite ?_ ?_
      | refine LeO.bind ?_ (fun _ => ?_)
end Go.Proofs.Ytjecgolakaiddaa.P
end

section
namespace Go.Proofs.Ytjecgolakaiddaa.Cf
set_option linter.unusedVariables false
set_option linter.unusedSimpArgs false
open Go.RowKit Go.Proofs.YtjecgolakaiddaaW.PrintWords Go.Proofs.Ytjecgolakaiddaa.P
noncomputable def levO (n : Int) (es : List E) (p : List Int) (q : Int) : Int × Bool := if recB n es p q = true then (wrap64 (wrap64 (p.sum + valG n es q) - (es.length : Int)), true) else (0, false)
theorem specLev (n : Int) (es : List E) (p : List Int) (q : Int) (hel : es.length ≤ 1048576) (hl : p.length ≤ 1048576) : Ep (fun k => spec_LevelOf.f k n es p q) (· = levO n es p q) := by
  simp only [spec_LevelOf.f, levO]
  refine Ep.bind (specRecur n es p q hel hl) ?_
  rintro _ rfl
  refine Ep.ite (fun h => ?_) (fun h => Ep.now (by rw [if_neg h]))
  obtain ⟨m, rfl, _, _, _, hm⟩ := pOk_all (recB_pOk h)
  refine Ep.bind (specSum p hl hm) ?_
  rintro _ rfl
  refine Ep.bind (specValence m es q hel) ?_
  rintro _ rfl
  exact Ep.now (by rw [if_pos h])
theorem implLev (n : Int) (es : List E) (p : List Int) (q : Int) (hel : es.length ≤ 1048576) (hl : p.length ≤ 1048576) : Ep (fun k => impl_LevelOf.f k n es p q) (· = levO n es p q) := by
  simp only [impl_LevelOf.f, levO]
  refine Ep.bind (implRecur n es p q hel hl) ?_
  rintro _ rfl
  refine Ep.ite (fun h => ?_) (fun h => Ep.now (by rw [if_neg h]))
  obtain ⟨m, rfl, _, _, _, hm⟩ := pOk_all (recB_pOk h)
  refine Ep.bind (implSum p hl hm) ?_
  rintro _ rfl
  refine Ep.bind (implValence m es q hel) ?_
  rintro _ rfl
  exact Ep.now (by rw [if_pos h])
end Go.Proofs.Ytjecgolakaiddaa.Cf
end

section
namespace Go.Proofs.Ytjecgolakaiddaa.P
open Go.RowKit Go.Proofs.YtjecgolakaiddaaW.PrintWords Go.Proofs.YtjecgolakaiddaaW.PrintLast Go.Proofs.YtjecgolakaiddaaW.PrintMore
attribute [local go_sem] max2_int min2_int max_two min_two max_three min_three max_four min_four
set_option linter.unusedVariables false
set_option linter.unusedSimpArgs false
def laws_markEdgeS.l0 : Nat → List (S70) → Int → Int → Option (Int × (List (S70)))
  | 0, _, _, _ => none
  | k + 1, x0, x1, x5 => if x5 < (x0.length : Int) then (if 0 ≤ x5 then ((some (x0.set (x5 : Int).toNat (⟨x1, (rd_T70 x0 x5).f1⟩ : S70) : List (S70))).bind fun y101 => (laws_markEdgeS.l0 k (y101.set (x5 : Int).toNat (⟨(rd_T70 y101 x5).f0, wrap64 (x1 + 1)⟩ : S70)) (wrap64 ((wrap64 (x1 + 1)) + 1)) (wrap64 (x5 + 1)))) else (none)) else (some (x1, x0))
def laws_markEdgeS.f (k : Nat) (l0 : List (S70)) (a1 : Int) : Option (Int × (List (S70))) := laws_markEdgeS.l0 k l0 a1 0
theorem laws_markEdgeS.mono_l : ∀ k, (∀ y0 y1 y2, LeO (laws_markEdgeS.l0 k y0 y1 y2) (laws_markEdgeS.l0 (k + 1) y0 y1 y2))
  | 0 => fun _ _ _ r h => by simp [laws_markEdgeS.l0] at h
  | k + 1 => by
    have ih0 := laws_markEdgeS.mono_l k
    · intro y0 y1 y2
      unfold laws_markEdgeS.l0
      repeat' first
      | (with_reducible exact ih0 _ _ _)
      | (with_reducible exact LeO.refl _)
      | (with_reducible exact LeO.none _)
      | (with_reducible refine LeO.ite ?_ ?_)
      | (with_reducible refine LeO.bind ?_ (fun _ => ?_))
      | exact ih0 _ _ _
      | exact LeO.none _
      | refine LeO.ite ?_ ?_
      | refine LeO.bind ?_ (fun _ => ?_)
theorem laws_markEdgeS.mono : ∀ a0 a1 k, LeO (laws_markEdgeS.f k a0 a1) (laws_markEdgeS.f (k + 1) a0 a1) := by
  intro a0 a1 k; have ih0 := laws_markEdgeS.mono_l k; unfold laws_markEdgeS.f
  repeat' first
      | (with_reducible exact ih0 _ _ _)
      | (with_reducible exact LeO.refl _)
      | (with_reducible exact LeO.none _)
      | (with_reducible refine LeO.ite ?_ ?_)
      | (with_reducible refine LeO.bind ?_ (fun _ => ?_))
      | exact ih0 _ _ _
      | exact LeO.none _
      | refine LeO.ite ?_ ?_
      | refine LeO.bind ?_ (fun _ => ?_)
end Go.Proofs.Ytjecgolakaiddaa.P
end

section
namespace Go.Proofs.Ytjecgolakaiddaa.P
open Go.RowKit Go.Proofs.YtjecgolakaiddaaW.PrintWords Go.Proofs.YtjecgolakaiddaaW.PrintLast Go.Proofs.YtjecgolakaiddaaW.PrintMore
attribute [local go_sem] max2_int min2_int max_two min_two max_three min_three max_four min_four
set_option linter.unusedVariables false
set_option linter.unusedSimpArgs false
def laws_markGraph.f (k : Nat) (a0_0 : Int) (l0_1 : List (S70)) (a1 : Int) : Option (Int × (List (S70))) := (laws_markEdgeS.f k l0_1 a1).bind fun bt102 => (some (bt102.1, bt102.2))
theorem laws_markGraph.mono : ∀ a0 a1 a2 k, LeO (laws_markGraph.f k a0 a1 a2) (laws_markGraph.f (k + 1) a0 a1 a2) := by
  intro a0 a1 a2 k; unfold laws_markGraph.f
  repeat' first
      | (with_reducible exact laws_markEdgeS.mono _ _ _)
      | (with_reducible exact LeO.refl _)
      | (with_reducible exact LeO.none _)
      | (with_reducible refine LeO.ite ?_ ?_)
      | (with_reducible refine LeO.bind ?_ (fun _ => ?_))
      | exact laws_markEdgeS.mono _ _ _
      | exact LeO.none _
      | refine LeO.ite ?_ ?_
      | refine LeO.bind ?_ (fun _ => ?_)
end Go.Proofs.Ytjecgolakaiddaa.P
end

section
namespace Go.Proofs.Ytjecgolakaiddaa.Cf
set_option linter.unusedVariables false
set_option linter.unusedSimpArgs false
open Go.RowKit Go.Proofs.YtjecgolakaiddaaW.PrintWords Go.Proofs.Ytjecgolakaiddaa.P
def EWf (e : E) : Prop := Wf .i64 e.f0 ∧ Wf .i64 e.f1
theorem rdLE_get {es : List E} {i : Nat} (h : i < es.length) : rd_T96 es (i : Int) = es[i] := by simp [rd_T96, List.getD, h]
theorem szGraph_ok (n : Int) (es : List E) (a : Int) (ha : 0 ≤ a ∧ a ≤ 1048576) (hl : es.length ≤ 9223372036854775807) : ∃ t, laws_szGraph.f n es a = some t ∧ t ≤ 1048576 ∧ (¬ t < 0 → es.length ≤ 1048576) := by
  unfold laws_szGraph.f laws_szEdgeS.f
  rw [wrap_id (by omega) (by omega)]
  by_cases h : a - (es.length : Int) < 0
  · refine ⟨-1, ?_, by omega, by omega⟩
    rw [if_pos h]
    simp
  · refine ⟨a - es.length, ?_, by omega, by omega⟩
    rw [if_neg h]
    simp only [Option.bind_some]
    rw [if_neg h]
theorem toEdgeS_l0 (x0 : List E) (h : x0.length ≤ 1048576) : ∀ (d i : Nat) (x3 : List E), i + d = x0.length → x3.length = x0.length → (∀ j, j < i → x3[j]? = x0[j]?) → Ep (fun k => laws_toEdgeS.l0 k x0 x3 (i : Int)) (· = x0) := by
  intro d
  induction d with
  | zero =>
    intro i x3 hi hl hx
    refine Ep.up ?_
    simp only [laws_toEdgeS.l0]
    refine Ep.neg (by omega) (Ep.now ?_)
    apply List.ext_getElem?
    intro j
    by_cases hj : j < i
    · exact hx j hj
    · rw [List.getElem?_eq_none (by omega), List.getElem?_eq_none (by omega)]
  | succ d ih =>
    intro i x3 hi hl hx
    have hlt : i < x0.length := by omega
    refine Ep.up ?_
    simp only [laws_toEdgeS.l0]
    refine Ep.pos (by omega) (Ep.pos (by omega) ?_)
    rw [rdLE_get hlt, wrap_succ (by omega)]
    refine Ep.bind0 rfl (Ep.pos (by omega) ?_)
    refine ih (i + 1) _ (by omega) (by simpa using hl) ?_
    intro j hj
    rw [Int.toNat_natCast]
    by_cases e : i = j
    · subst e
      rw [List.getElem?_set_self (by omega), List.getElem?_eq_getElem (by omega)]
    · rw [List.getElem?_set_ne e]
      exact hx j (by omega)
theorem toGraph_ok (n : Int) (es : List E) (h : es.length ≤ 1048576) : Ep (fun k => laws_toGraph.f k n es) (· = (n, es)) := by
  simp only [laws_toGraph.f, laws_toEdgeS.f]
  refine Ep.bind (P := (· = es)) (Ep.pos (by omega) (Ep.pos (by simp; omega) ?_)) ?_
  · exact toEdgeS_l0 es h es.length 0 _ (by omega) (by simp) (fun j hj => by omega)
  · rintro _ rfl
    exact Ep.now rfl
theorem eqEdge_ok (a b : Int) : laws_eqEdge.f a b a b = some true := by simp [laws_eqEdge.f]
theorem eqEdgeS_l0 (x : List E) (h : x.length ≤ 1048576) : ∀ (d i : Nat), i + d = x.length → Ep (fun k => laws_eqEdgeS.l0 k x x (i : Int)) (· = true) := by
  intro d
  induction d with
  | zero =>
    intro i hi
    refine Ep.up ?_
    simp only [laws_eqEdgeS.l0]
    exact Ep.neg (by omega) (Ep.now rfl)
  | succ d ih =>
    intro i hi
    refine Ep.up ?_
    simp only [laws_eqEdgeS.l0]
    refine Ep.pos (by omega) (Ep.pos (by omega) (Ep.pos (by omega) ?_))
    rw [wrap_succ (by omega)]
    exact Ep.bind0 (eqEdge_ok _ _) (Ep.pos rfl (ih (i + 1) (by omega)))
theorem eqGraph_ok (n : Int) (es : List E) (h : es.length ≤ 1048576) : Ep (fun k => laws_eqGraph.f k n es n es) (· = true) := by
  simp only [laws_eqGraph.f]
  refine Ep.pos trivial (Ep.bind (P := (· = true)) ?_ ?_)
  · simp only [laws_eqEdgeS.f]
    exact Ep.pos trivial (eqEdgeS_l0 es h es.length 0 (by omega))
  · rintro _ rfl
    exact Ep.pos rfl (Ep.now rfl)
theorem markEdgeS_l0 (n : Nat) (hn : n ≤ 1048576) {B : Int} (hB : B ≤ 1099511627776) : ∀ (d i : Nat) (x : List E) (a : Int), i + d = n → x.length = n → 0 ≤ a → a + 2 * d ≤ B → Ep (fun k => laws_markEdgeS.l0 k x a (i : Int)) (fun r => 0 ≤ r.1 ∧ r.1 ≤ B) := by
  intro d
  induction d with
  | zero =>
    intro i x a hi hx h0 ha
    refine Ep.up ?_
    simp only [laws_markEdgeS.l0]
    exact Ep.neg (by omega) (Ep.now ⟨h0, by omega⟩)
  | succ d ih =>
    intro i x a hi hx h0 ha
    refine Ep.up ?_
    simp only [laws_markEdgeS.l0]
    refine Ep.pos (by omega) (Ep.pos (by omega) (Ep.bind0 rfl ?_))
    rw [wrap_succ (by omega), wrap_id (x := a + 1) (by omega) (by omega), wrap_id (x := a + 1 + 1) (by omega) (by omega)]
    exact ih (i + 1) _ _ (by omega) (by simpa using hx) (by omega) (by omega)
theorem markGraph_ok (n : Int) (es : List E) (a : Int) (h : es.length ≤ 1048576) (ha : 0 ≤ a ∧ a ≤ 1000) : Ep (fun k => laws_markGraph.f k n es a) (fun r => 0 ≤ r.1 ∧ r.1 ≤ 3000000) := by
  have := markEdgeS_l0 es.length h (B := 3000000) (by omega) es.length 0 es a (by omega) rfl ha.1 (by omega)
  simp only [laws_markGraph.f, laws_markEdgeS.f]
  refine Ep.bind this ?_
  intro r hr
  exact Ep.now hr
end Go.Proofs.Ytjecgolakaiddaa.Cf
end

section
namespace Go.Proofs.Ytjecgolakaiddaa.Cf
set_option linter.unusedVariables false
set_option linter.unusedSimpArgs false
open Go.RowKit Go.Proofs.YtjecgolakaiddaaW.PrintWords Go.Proofs.Ytjecgolakaiddaa.P
theorem law_FnExactLevelOf (n : Int) (es : List E) (l : List Int) (q : Int) (hn : Wf .i64 n) (hes : SL EWf es) (wl : SL (Wf .i64) l) (wq : Wf .i64 q) : Ep (fun k => laws_FnExactLevelOf.f k n es l q) (· = true) := by
  simp only [laws_FnExactLevelOf.f]
  refine Ep.ite (fun _ => Ep.now rfl) (fun hcl => ?_)
  have hl : l.length ≤ 1048576 := by omega
  obtain ⟨t, ht, _, h2⟩ := szGraph_ok n es 1048576 (by omega) hes.1
  refine Ep.bind0 ht (Ep.ite (fun _ => Ep.now rfl) (fun hc2 => ?_))
  have hel := h2 hc2
  repeat (first
    | exact Ep.now rfl
    | (refine Ep.bind (toGraph_ok _ _ hel) ?_; rintro _ rfl)
    | (refine Ep.bind (eqGraph_ok _ _ hel) ?_; rintro _ rfl)
    | (refine Ep.bind (toIntS_ok _ hl) ?_; rintro _ rfl)
    | (refine Ep.bind (eqIntS_ok _ hl) ?_; rintro _ rfl)
    | (refine Ep.bind (specLev _ _ _ _ hel hl) ?_; rintro _ rfl)
    | (refine Ep.bind (implLev _ _ _ _ hel hl) ?_; rintro _ rfl)
    | (refine Ep.bind (markIntS_ok _ _ hl (by first | omega | (simp; omega))) ?_; rintro _ rfl)
    | (refine Ep.bind (markGraph_ok _ _ 1 hel (by omega)) ?_; intro r hr0_)
    | refine Ep.pos rfl ?_
    | refine Ep.pos trivial ?_
    | refine Ep.neg (by simp; omega) ?_
    | refine Ep.neg (by omega) ?_
    | refine Ep.neg (by simp) ?_
    | (refine Ep.up ?_; simp only [laws_FnExactLevelOf.j0]))
end Go.Proofs.Ytjecgolakaiddaa.Cf
end

section
namespace Go.Proofs.Ytjecgolakaiddaa.Cf
set_option linter.unusedVariables false
set_option linter.unusedSimpArgs false
open Go.RowKit Go.ChangeShapes Go.WideShapes Go.Deep Go.Joins Go.Proofs.YtjecgolakaiddaaW.PrintWords
section
variable {H : Type} {enc : TypeId × Value → H} {P : Program} {w : World} {base : Nat} {spare : Nat → Bool} {held : Bool}
/-- A slice, whatever its elements are, if each of them can be told. -/
theorem trod_C {α : Type} {d : Kd α} {Q : α → Prop} (hd : Inhabited α) {t e : TypeId} {fuel : Nat} {cs : List Value} {x : DataW H × List MemPlace} (ht : P.underlying t = some (.slice e)) (hsz : P.cellsOf e = d.sz)
    (hel : ∀ (n : Nat) (cs : List Value) (y : DataW H × List MemPlace), DataW.trod enc P w base spare held n e cs = some y → ∃ a : α, d.K w a cs ∧ Q a)
    (h : DataW.trod enc P w base spare held fuel t cs = some x) : ∃ A len cap xs, cs = [.slice A len cap] ∧ xs.length = len ∧ len ≤ cap ∧ Kd.C d w A len xs ∧ SL Q xs := by
  rcases open_slice ht h with ⟨rfl, _⟩ | ⟨a, len, cap, m, n, D, Pl, rfl, _, hl, hm, hmm, _, hx⟩
  · exact ⟨none, 0, 0, [], rfl, rfl, Nat.le_refl _, ⟨rfl, by omega, fun hn => by omega⟩, by simp, fun x hx => by cases hx⟩
  · have hlm : len ≤ m := by rw [hmm]; split <;> omega
    obtain ⟨X, hX⟩ := choose_lt (α := α) (n := len) (p := fun i z => Q z ∧ ∃ c, c.length = d.sz ∧ d.K w z c ∧ ∀ j u, c[j]? = some u → w.cell? (a.add (i * d.sz + j)) = some u) (fun i hi => by
      obtain ⟨cs', h1, h2⟩ := hx i (by omega)
      obtain ⟨z, hz, hq⟩ := hel n cs' _ h2
      obtain ⟨_, hlen, hc⟩ := World.cells?_some h1
      refine ⟨z, hq, cs', by rw [hlen, hsz], hz, fun j u hj => ?_⟩
      have hjl : j < cs'.length := by
        apply Classical.byContradiction
        intro hc
        rw [List.getElem?_eq_none (by omega)] at hj
        cases hj
      have := hc j (by omega)
      rw [Deep.add_add, hsz] at this
      rw [this, hj])
    refine ⟨some a, len, cap, (List.range len).map X, rfl, by simp, hl, ⟨by simp, ?_, fun _ => ⟨a, rfl, fun j p hj => ?_⟩⟩, by simp; unfold maxLen at hm; omega, fun x hx => ?_⟩
    · unfold maxLen at hm
      omega
    · have hjl : j < len := by
        apply Classical.byContradiction
        intro hc
        rw [List.getElem?_eq_none (by simp; omega)] at hj
        cases hj
      have : p = X j := by
        rw [List.getElem?_eq_getElem (by simpa using hjl)] at hj
        simpa using hj.symm
      subst this
      exact (hX j hjl).2
    · obtain ⟨i, hi, rfl⟩ := List.mem_map.1 hx
      exact (hX i (List.mem_range.1 hi)).1
theorem el_int {k : IntKind} {e : TypeId} (he : P.underlying e = some (.int k)) : ∀ (n : Nat) (cs : List Value) (y : DataW H × List MemPlace), DataW.trod enc P w base spare held n e cs = some y → ∃ a : Int, (Kd.int k).K w a cs ∧ Wf k a := by
  intro n cs y h
  obtain ⟨a, rfl, _, hw⟩ := DataW.trod_int he h
  exact ⟨a, rfl, hw⟩
/-- A struct of two numbers. -/
theorem el_pair {k0 k1 : IntKind} {e : TypeId} {f0 f1 : Field} (he : P.underlying e = some (.struct #[f0, f1])) (ce : P.cellsOf e = 2) (o0 : f0.offset = 0) (o1 : f1.offset = 1) (c0 : P.cellsOf f0.type = 1) (c1 : P.cellsOf f1.type = 1)
    (u0 : P.underlying f0.type = some (.int k0)) (u1 : P.underlying f1.type = some (.int k1)) :
    ∀ (n : Nat) (cs : List Value) (y : DataW H × List MemPlace), DataW.trod enc P w base spare held n e cs = some y → ∃ a b : Int, cs = [.int k0 a, .int k1 b] ∧ Wf k0 a ∧ Wf k1 b := by
  intro n cs y h
  obtain ⟨y0, y1, m, _, hl, h0, h1⟩ := trod_struct2 he h
  rw [ce] at hl
  rw [o0, c0] at h0
  rw [o1, c1] at h1
  match cs, hl with
  | [a, b], _ =>
    obtain ⟨x, hx, _, wx⟩ := DataW.trod_int u0 h0
    obtain ⟨z, hz, _, wz⟩ := DataW.trod_int u1 h1
    simp at hx hz
    subst hx; subst hz
    exact ⟨x, z, rfl, wx, wz⟩
/-- A slice that comes in. -/
theorem arg_slice {α : Type} {d : Kd α} {Q : α → Prop} (hd : Inhabited α) {t e : TypeId} {a : Option Addr} {len cap : Nat} {x : DataW H} {ps : List MemPlace} (ht : P.underlying t = some (.slice e)) (hsz : P.cellsOf e = d.sz)
    (hel : ∀ (n : Nat) (cs : List Value) (y : DataW H × List MemPlace), DataW.trod enc P w base spare held n e cs = some y → ∃ a : α, d.K w a cs ∧ Q a)
    (h : DataW.Trod enc P w base spare held t (.slice a len cap) x ps) : ∃ xs : List α, xs.length = len ∧ len ≤ cap ∧ Kd.C d w a len xs ∧ SL Q xs := by
  obtain ⟨fuel, hf⟩ := h
  obtain ⟨A, l, c, xs, hcs, hl, hc, hC, hq⟩ := trod_C hd ht hsz hel hf
  simp [Value.cells] at hcs
  obtain ⟨rfl, rfl, rfl⟩ := hcs
  exact ⟨xs, hl, hc, hC, hq⟩
/-- A struct of a number and a slice that comes in. -/
theorem arg_graph {α : Type} {d : Kd α} {Q : α → Prop} (hd : Inhabited α) {r : Reach} {b0 : Nat} {t e : TypeId} {f0 f1 : Field} {v : Value} {x : DataW H} {p : List MemPlace} (hs : P.underlying t = some (.struct #[f0, f1])) (hone : oneCellFields P #[f0, f1] = true) (hC : P.cellsOf t = 2)
    (u0 : P.underlying f0.type = some (.int .i64)) (u1 : P.underlying f1.type = some (.slice e)) (hsz : P.cellsOf e = d.sz)
    (hel : ∀ (n : Nat) (cs : List Value) (y : DataW H × List MemPlace), DataW.trod enc P w base spare held n e cs = some y → ∃ a : α, d.K w a cs ∧ Q a)
    (hv : Value.okWide P w r b0 t v) (h : DataW.Trod enc P w base spare held t v x p) : ∃ n a len cap, ∃ xs : List α, v = .agg #[.int .i64 n, .slice a len cap] ∧ Wf .i64 n ∧ xs.length = len ∧ len ≤ cap ∧ Kd.C d w a len xs ∧ SL Q xs := by
  obtain ⟨v0, v1, y0, y1, m, rfl, _, _, h0, h1⟩ := open_agg2 hs hone hC hv h
  obtain ⟨n, hn, _, hw⟩ := DataW.trod_int u0 h0
  obtain ⟨A, len, cap, xs, hcs, hl, hc, hx, hq⟩ := trod_C hd u1 hsz hel h1
  simp at hn hcs
  subst hn; subst hcs
  exact ⟨n, A, len, cap, xs, rfl, hw, hl, hc, hx, hq⟩
end
end Go.Proofs.Ytjecgolakaiddaa.Cf
end

section
namespace Go.Proofs.Ytjecgolakaiddaa.Cf
theorem and2 {a b : Bool} (h : a = true) (k : b = true) : (a && b) = true := by rw [h, k]; rfl
theorem iniS : Try.prog.initOrder.toList = ['h', 'a', 'r', 'n', 'e', 's', 's', ' ', '0', '0', 'c', '4', 'f', '8', 'b', '5', '8', 'c', '3', 'd', '6', '2', '4', '4', '8', '9', '3', '8', '3', '5', 'b', '9', 'e', 'b', '3', '8', 'e', '6', '4', '2', '8', '4', '2', '8', '5', '7', 'b', '4', '9', 'c', 'c', '7', '0', '7', '7', 'e', '6', '8', '7', '0', '9', '9', '8', '2', 'd', '4', 'c', 'f', 'b', '1', 'b', '8', ' ', 'c', 'u', 't', ' ', 'a', 't', ' ', 'l', 'o', 'o', 'p', '.', 'e', 'x', 'a', 'm', 'p', 'l', 'e', '/', 'g', '0', '0', '8', '4', '1', '/', 'l', 'a', 'w', 's', '.', 'F', 'n', 'E', 'x', 'a', 'c', 't', 'R', 'o', 'w', 'O', 'f', 'O', 'n', 'e', ' ', 'l', 'o', 'o', 'p', '.', 'e', 'x', 'a', 'm', 'p', 'l', 'e', '/', 'g', '0', '0', '8', '4', '1', '/', 'l', 'a', 'w', 's', '.', 'F', 'n', 'E', 'x', 'a', 'c', 't', 'I', 's', 'T', 'r', 'e', 'e', 'S', 't', 'a', 't', 'e', ' ', 'l', 'o', 'o', 'p', '.', 'e', 'x', 'a', 'm', 'p', 'l', 'e', '/', 'g', '0', '0', '8', '4', '1', '/', 'l', 'a', 'w', 's', '.', 'F', 'n', 'E', 'x', 'a', 'c', 't', 'F', 'u', 'l', 'l', 'P', 'i', 'l', 'e', ' ', 'l', 'o', 'o', 'p', '.', 'e', 'x', 'a', 'm', 'p', 'l', 'e', '/', 'g', '0', '0', '8', '4', '1', '/', 'l', 'a', 'w', 's', '.', 'F', 'n', 'E', 'x', 'a', 'c', 't', 'I', 's', 'A', 'c', 'y', 'c', 'l', 'i', 'c', ' ', 'l', 'o', 'o', 'p', '.', 'e', 'x', 'a', 'm', 'p', 'l', 'e', '/', 'g', '0', '0', '8', '4', '1', '/', 'l', 'a', 'w', 's', '.', 'F', 'n', 'E', 'x', 'a', 'c', 't', 'D', 'i', 'v', 'i', 's', 'o', 'r', 'O', 'f', 'O', 'r', 'i', 'e', 'n', 't', ' ', 'l', 'o', 'o', 'p', '.', 'e', 'x', 'a', 'm', 'p', 'l', 'e', '/', 'g', '0', '0', '8', '4', '1', '/', 'l', 'a', 'w', 's', '.', 'F', 'n', 'E', 'x', 'a', 'c', 't', 'S', 't', 'e', 'p', 'W', 'a', 'l', 'k', 'e', 'r', ' ', 'l', 'o', 'o', 'p', '.', 'e', 'x', 'a', 'm', 'p', 'l', 'e', '/', 'g', '0', '0', '8', '4', '1', '/', 'l', 'a', 'w', 's', '.', 'F', 'n', 'E', 'x', 'a', 'c', 't', 'W', 'a', 'l', 'k', 'T', 'o', 'S', 'i', 'n', 'k', ' ', 'l', 'o', 'o', 'p', '.', 'e', 'x', 'a', 'm', 'p', 'l', 'e', '/', 'g', '0', '0', '8', '4', '1', '/', 'l', 'a', 'w', 's', '.', 'F', 'n', 'E', 'x', 'a', 'c', 't', 'S', 'o', 'u', 'r', 'c', 'e', 's', 'O', 'f', ' ', 'l', 'o', 'o', 'p', '.', 'e', 'x', 'a', 'm', 'p', 'l', 'e', '/', 'g', '0', '0', '8', '4', '1', '/', 'l', 'a', 'w', 's', '.', 'F', 'n', 'E', 'x', 'a', 'c', 't', 'S', 't', 'a', 't', 'e', 'O', 'f', 'T', 'r', 'e', 'e', ' ', 'l', 'o', 'o', 'p', '.', 'e', 'x', 'a', 'm', 'p', 'l', 'e', '/', 'g', '0', '0', '8', '4', '1', '/', 'l', 'a', 'w', 's', '.', 'F', 'n', 'E', 'x', 'a', 'c', 't', 'I', 's', 'P', 'a', 'r', 'k', 'i', 'n', 'g', ' ', 'l', 'o', 'o', 'p', '.', 'e', 'x', 'a', 'm', 'p', 'l', 'e', '/', 'g', '0', '0', '8', '4', '1', '/', 'l', 'a', 'w', 's', '.', 'F', 'n', 'E', 'x', 'a', 'c', 't', 'T', 'o', 'p', 'p', 'l', 'e', ' ', 'l', 'o', 'o', 'p', '.', 'e', 'x', 'a', 'm', 'p', 'l', 'e', '/', 'g', '0', '0', '8', '4', '1', '/', 'l', 'a', 'w', 's', '.', 'F', 'n', 'E', 'x', 'a', 'c', 't', 'F', 'l', 'i', 'p', 'S', 'o', 'u', 'r', 'c', 'e', ' ', 'l', 'o', 'o', 'p', '.', 'e', 'x', 'a', 'm', 'p', 'l', 'e', '/', 'g', '0', '0', '8', '4', '1', '/', 'l', 'a', 'w', 's', '.', 'F', 'n', 'E', 'x', 'a', 'c', 't', 'C', 'o', 'u', 'n', 't', 'A', 'c', 'y', 'c', 'l', 'i', 'c', ' ', 'l', 'o', 'o', 'p', '.', 'e', 'x', 'a', 'm', 'p', 'l', 'e', '/', 'g', '0', '0', '8', '4', '1', '/', 'l', 'a', 'w', 's', '.', 'F', 'n', 'E', 'x', 'a', 'c', 't', 'A', 'v', 'a', 'l', 'a', 'n', 'c', 'h', 'e', 'S', 'i', 'z', 'e', ' ', 'l', 'o', 'o', 'p', '.', 'e', 'x', 'a', 'm', 'p', 'l', 'e', '/', 'g', '0', '0', '8', '4', '1', '/', 'l', 'a', 'w', 's', '.', 'F', 'n', 'E', 'x', 'a', 'c', 't', 'S', 't', 'a', 'b', 'i', 'l', 'i', 'z', 'e', ' ', 'l', 'o', 'o', 'p', '.', 'e', 'x', 'a', 'm', 'p', 'l', 'e', '/', 'g', '0', '0', '8', '4', '1', '/', 'l', 'a', 'w', 's', '.', 'F', 'n', 'E', 'x', 'a', 'c', 't', 'O', 'r', 'i', 'e', 'n', 't', 'B', 'y', 'B', 'u', 'r', 'n', 'i', 'n', 'g', ' ', 'l', 'o', 'o', 'p', '.', 'e', 'x', 'a', 'm', 'p', 'l', 'e', '/', 'g', '0', '0', '8', '4', '1', '/', 'l', 'a', 'w', 's', '.', 'F', 'n', 'E', 'x', 'a', 'c', 't', 'S', 'u', 'm', 'O', 'f', 'P', 'i', 'l', 'e', 's', ' ', 'l', 'o', 'o', 'p', '.', 'e', 'x', 'a', 'm', 'p', 'l', 'e', '/', 'g', '0', '0', '8', '4', '1', '/', 'l', 'a', 'w', 's', '.', 'F', 'n', 'E', 'x', 'a', 'c', 't', 'I', 's', 'R', 'e', 'c', 'u', 'r', 'r', 'e', 'n', 't', ' ', 'l', 'o', 'o', 'p', '.', 'e', 'x', 'a', 'm', 'p', 'l', 'e', '/', 'g', '0', '0', '8', '4', '1', '/', 'l', 'a', 'w', 's', '.', 'F', 'n', 'E', 'x', 'a', 'c', 't', 'D', 'r', 'o', 'p', 'C', 'h', 'i', 'p', ' ', 'l', 'o', 'o', 'p', '.', 'e', 'x', 'a', 'm', 'p', 'l', 'e', '/', 'g', '0', '0', '8', '4', '1', '/', 'l', 'a', 'w', 's', '.', 'F', 'n', 'E', 'x', 'a', 'c', 't', 'L', 'e', 'v', 'e', 'l', 'O', 'f', ' ', 'l', 'o', 'o', 'p', '.', 'e', 'x', 'a', 'm', 'p', 'l', 'e', '/', 'g', '0', '0', '8', '4', '1', '/', 'l', 'a', 'w', 's', '.', 'F', 'n', 'E', 'x', 'a', 'c', 't', 'P', 'i', 'l', 'e', 'O', 'f', 'P', 'a', 'r', 'k', 'i', 'n', 'g', ' ', 'l', 'o', 'o', 'p', '.', 'e', 'x', 'a', 'm', 'p', 'l', 'e', '/', 'g', '0', '0', '8', '4', '1', '/', 'l', 'a', 'w', 's', '.', 'F', 'n', 'E', 'x', 'a', 'c', 't', 'O', 'r', 'd', 'e', 'r', 'O', 'f', ' ', 'l', 'o', 'o', 'p', '.', 'e', 'x', 'a', 'm', 'p', 'l', 'e', '/', 'g', '0', '0', '8', '4', '1', '/', 'l', 'a', 'w', 's', '.', 'F', 'n', 'E', 'x', 'a', 'c', 't', 'S', 'u', 'm', 'O', 'f', 'C', 'l', 'a', 's', 's', 'e', 's', ' ', 'l', 'o', 'o', 'p', '.', 'e', 'x', 'a', 'm', 'p', 'l', 'e', '/', 'g', '0', '0', '8', '4', '1', '/', 'l', 'a', 'w', 's', '.', 'F', 'n', 'E', 'x', 'a', 'c', 't', 'I', 'n', 'v', 'e', 'r', 's', 'e', 'C', 'l', 'a', 's', 's', ' ', 'l', 'o', 'o', 'p', '.', 'e', 'x', 'a', 'm', 'p', 'l', 'e', '/', 'g', '0', '0', '8', '4', '1', '/', 'l', 'a', 'w', 's', '.', 'F', 'n', 'E', 'x', 'a', 'c', 't', 'I', 'd', 'e', 'n', 't', 'i', 't', 'y', 'P', 'i', 'l', 'e', ' ', 'l', 'o', 'o', 'p', '.', 'e', 'x', 'a', 'm', 'p', 'l', 'e', '/', 'g', '0', '0', '8', '4', '1', '/', 'l', 'a', 'w', 's', '.', 'F', 'n', 'E', 'x', 'a', 'c', 't', 'P', 'a', 'r', 'k', 'i', 'n', 'g', 'O', 'f', 'P', 'i', 'l', 'e', ' ', 'l', 'o', 'o', 'p', '.', 'e', 'x', 'a', 'm', 'p', 'l', 'e', '/', 'g', '0', '0', '8', '4', '1', '/', 'l', 'a', 'w', 's', '.', 'F', 'n', 'E', 'x', 'a', 'c', 't', 'T', 'i', 'm', 'e', 's', 'C', 'l', 'a', 's', 's', ' ', 'l', 'o', 'o', 'p', '.', 'e', 'x', 'a', 'm', 'p', 'l', 'e', '/', 'g', '0', '0', '8', '4', '1', '/', 'l', 'a', 'w', 's', '.', 'F', 'n', 'E', 'x', 'a', 'c', 't', 'R', 'e', 'c', 'u', 'r', 'r', 'e', 'n', 't', 'O', 'f', ' ', 'l', 'o', 'o', 'p', '.', 'e', 'x', 'a', 'm', 'p', 'l', 'e', '/', 'g', '0', '0', '8', '4', '1', '/', 'l', 'a', 'w', 's', '.', 'F', 'n', 'E', 'x', 'a', 'c', 't', 'I', 'n', 'v', 'e', 'r', 's', 'e', 'P', 'i', 'l', 'e'] := by
  have h : Try.prog.initOrder = String.ofList ['h', 'a', 'r', 'n', 'e', 's', 's', ' ', '0', '0', 'c', '4', 'f', '8', 'b', '5', '8', 'c', '3', 'd', '6', '2', '4', '4', '8', '9', '3', '8', '3', '5', 'b', '9', 'e', 'b', '3', '8', 'e', '6', '4', '2', '8', '4', '2', '8', '5', '7', 'b', '4', '9', 'c', 'c', '7', '0', '7', '7', 'e', '6', '8', '7', '0', '9', '9', '8', '2', 'd', '4', 'c', 'f', 'b', '1', 'b', '8', ' ', 'c', 'u', 't', ' ', 'a', 't', ' ', 'l', 'o', 'o', 'p', '.', 'e', 'x', 'a', 'm', 'p', 'l', 'e', '/', 'g', '0', '0', '8', '4', '1', '/', 'l', 'a', 'w', 's', '.', 'F', 'n', 'E', 'x', 'a', 'c', 't', 'R', 'o', 'w', 'O', 'f', 'O', 'n', 'e', ' ', 'l', 'o', 'o', 'p', '.', 'e', 'x', 'a', 'm', 'p', 'l', 'e', '/', 'g', '0', '0', '8', '4', '1', '/', 'l', 'a', 'w', 's', '.', 'F', 'n', 'E', 'x', 'a', 'c', 't', 'I', 's', 'T', 'r', 'e', 'e', 'S', 't', 'a', 't', 'e', ' ', 'l', 'o', 'o', 'p', '.', 'e', 'x', 'a', 'm', 'p', 'l', 'e', '/', 'g', '0', '0', '8', '4', '1', '/', 'l', 'a', 'w', 's', '.', 'F', 'n', 'E', 'x', 'a', 'c', 't', 'F', 'u', 'l', 'l', 'P', 'i', 'l', 'e', ' ', 'l', 'o', 'o', 'p', '.', 'e', 'x', 'a', 'm', 'p', 'l', 'e', '/', 'g', '0', '0', '8', '4', '1', '/', 'l', 'a', 'w', 's', '.', 'F', 'n', 'E', 'x', 'a', 'c', 't', 'I', 's', 'A', 'c', 'y', 'c', 'l', 'i', 'c', ' ', 'l', 'o', 'o', 'p', '.', 'e', 'x', 'a', 'm', 'p', 'l', 'e', '/', 'g', '0', '0', '8', '4', '1', '/', 'l', 'a', 'w', 's', '.', 'F', 'n', 'E', 'x', 'a', 'c', 't', 'D', 'i', 'v', 'i', 's', 'o', 'r', 'O', 'f', 'O', 'r', 'i', 'e', 'n', 't', ' ', 'l', 'o', 'o', 'p', '.', 'e', 'x', 'a', 'm', 'p', 'l', 'e', '/', 'g', '0', '0', '8', '4', '1', '/', 'l', 'a', 'w', 's', '.', 'F', 'n', 'E', 'x', 'a', 'c', 't', 'S', 't', 'e', 'p', 'W', 'a', 'l', 'k', 'e', 'r', ' ', 'l', 'o', 'o', 'p', '.', 'e', 'x', 'a', 'm', 'p', 'l', 'e', '/', 'g', '0', '0', '8', '4', '1', '/', 'l', 'a', 'w', 's', '.', 'F', 'n', 'E', 'x', 'a', 'c', 't', 'W', 'a', 'l', 'k', 'T', 'o', 'S', 'i', 'n', 'k', ' ', 'l', 'o', 'o', 'p', '.', 'e', 'x', 'a', 'm', 'p', 'l', 'e', '/', 'g', '0', '0', '8', '4', '1', '/', 'l', 'a', 'w', 's', '.', 'F', 'n', 'E', 'x', 'a', 'c', 't', 'S', 'o', 'u', 'r', 'c', 'e', 's', 'O', 'f', ' ', 'l', 'o', 'o', 'p', '.', 'e', 'x', 'a', 'm', 'p', 'l', 'e', '/', 'g', '0', '0', '8', '4', '1', '/', 'l', 'a', 'w', 's', '.', 'F', 'n', 'E', 'x', 'a', 'c', 't', 'S', 't', 'a', 't', 'e', 'O', 'f', 'T', 'r', 'e', 'e', ' ', 'l', 'o', 'o', 'p', '.', 'e', 'x', 'a', 'm', 'p', 'l', 'e', '/', 'g', '0', '0', '8', '4', '1', '/', 'l', 'a', 'w', 's', '.', 'F', 'n', 'E', 'x', 'a', 'c', 't', 'I', 's', 'P', 'a', 'r', 'k', 'i', 'n', 'g', ' ', 'l', 'o', 'o', 'p', '.', 'e', 'x', 'a', 'm', 'p', 'l', 'e', '/', 'g', '0', '0', '8', '4', '1', '/', 'l', 'a', 'w', 's', '.', 'F', 'n', 'E', 'x', 'a', 'c', 't', 'T', 'o', 'p', 'p', 'l', 'e', ' ', 'l', 'o', 'o', 'p', '.', 'e', 'x', 'a', 'm', 'p', 'l', 'e', '/', 'g', '0', '0', '8', '4', '1', '/', 'l', 'a', 'w', 's', '.', 'F', 'n', 'E', 'x', 'a', 'c', 't', 'F', 'l', 'i', 'p', 'S', 'o', 'u', 'r', 'c', 'e', ' ', 'l', 'o', 'o', 'p', '.', 'e', 'x', 'a', 'm', 'p', 'l', 'e', '/', 'g', '0', '0', '8', '4', '1', '/', 'l', 'a', 'w', 's', '.', 'F', 'n', 'E', 'x', 'a', 'c', 't', 'C', 'o', 'u', 'n', 't', 'A', 'c', 'y', 'c', 'l', 'i', 'c', ' ', 'l', 'o', 'o', 'p', '.', 'e', 'x', 'a', 'm', 'p', 'l', 'e', '/', 'g', '0', '0', '8', '4', '1', '/', 'l', 'a', 'w', 's', '.', 'F', 'n', 'E', 'x', 'a', 'c', 't', 'A', 'v', 'a', 'l', 'a', 'n', 'c', 'h', 'e', 'S', 'i', 'z', 'e', ' ', 'l', 'o', 'o', 'p', '.', 'e', 'x', 'a', 'm', 'p', 'l', 'e', '/', 'g', '0', '0', '8', '4', '1', '/', 'l', 'a', 'w', 's', '.', 'F', 'n', 'E', 'x', 'a', 'c', 't', 'S', 't', 'a', 'b', 'i', 'l', 'i', 'z', 'e', ' ', 'l', 'o', 'o', 'p', '.', 'e', 'x', 'a', 'm', 'p', 'l', 'e', '/', 'g', '0', '0', '8', '4', '1', '/', 'l', 'a', 'w', 's', '.', 'F', 'n', 'E', 'x', 'a', 'c', 't', 'O', 'r', 'i', 'e', 'n', 't', 'B', 'y', 'B', 'u', 'r', 'n', 'i', 'n', 'g', ' ', 'l', 'o', 'o', 'p', '.', 'e', 'x', 'a', 'm', 'p', 'l', 'e', '/', 'g', '0', '0', '8', '4', '1', '/', 'l', 'a', 'w', 's', '.', 'F', 'n', 'E', 'x', 'a', 'c', 't', 'S', 'u', 'm', 'O', 'f', 'P', 'i', 'l', 'e', 's', ' ', 'l', 'o', 'o', 'p', '.', 'e', 'x', 'a', 'm', 'p', 'l', 'e', '/', 'g', '0', '0', '8', '4', '1', '/', 'l', 'a', 'w', 's', '.', 'F', 'n', 'E', 'x', 'a', 'c', 't', 'I', 's', 'R', 'e', 'c', 'u', 'r', 'r', 'e', 'n', 't', ' ', 'l', 'o', 'o', 'p', '.', 'e', 'x', 'a', 'm', 'p', 'l', 'e', '/', 'g', '0', '0', '8', '4', '1', '/', 'l', 'a', 'w', 's', '.', 'F', 'n', 'E', 'x', 'a', 'c', 't', 'D', 'r', 'o', 'p', 'C', 'h', 'i', 'p', ' ', 'l', 'o', 'o', 'p', '.', 'e', 'x', 'a', 'm', 'p', 'l', 'e', '/', 'g', '0', '0', '8', '4', '1', '/', 'l', 'a', 'w', 's', '.', 'F', 'n', 'E', 'x', 'a', 'c', 't', 'L', 'e', 'v', 'e', 'l', 'O', 'f', ' ', 'l', 'o', 'o', 'p', '.', 'e', 'x', 'a', 'm', 'p', 'l', 'e', '/', 'g', '0', '0', '8', '4', '1', '/', 'l', 'a', 'w', 's', '.', 'F', 'n', 'E', 'x', 'a', 'c', 't', 'P', 'i', 'l', 'e', 'O', 'f', 'P', 'a', 'r', 'k', 'i', 'n', 'g', ' ', 'l', 'o', 'o', 'p', '.', 'e', 'x', 'a', 'm', 'p', 'l', 'e', '/', 'g', '0', '0', '8', '4', '1', '/', 'l', 'a', 'w', 's', '.', 'F', 'n', 'E', 'x', 'a', 'c', 't', 'O', 'r', 'd', 'e', 'r', 'O', 'f', ' ', 'l', 'o', 'o', 'p', '.', 'e', 'x', 'a', 'm', 'p', 'l', 'e', '/', 'g', '0', '0', '8', '4', '1', '/', 'l', 'a', 'w', 's', '.', 'F', 'n', 'E', 'x', 'a', 'c', 't', 'S', 'u', 'm', 'O', 'f', 'C', 'l', 'a', 's', 's', 'e', 's', ' ', 'l', 'o', 'o', 'p', '.', 'e', 'x', 'a', 'm', 'p', 'l', 'e', '/', 'g', '0', '0', '8', '4', '1', '/', 'l', 'a', 'w', 's', '.', 'F', 'n', 'E', 'x', 'a', 'c', 't', 'I', 'n', 'v', 'e', 'r', 's', 'e', 'C', 'l', 'a', 's', 's', ' ', 'l', 'o', 'o', 'p', '.', 'e', 'x', 'a', 'm', 'p', 'l', 'e', '/', 'g', '0', '0', '8', '4', '1', '/', 'l', 'a', 'w', 's', '.', 'F', 'n', 'E', 'x', 'a', 'c', 't', 'I', 'd', 'e', 'n', 't', 'i', 't', 'y', 'P', 'i', 'l', 'e', ' ', 'l', 'o', 'o', 'p', '.', 'e', 'x', 'a', 'm', 'p', 'l', 'e', '/', 'g', '0', '0', '8', '4', '1', '/', 'l', 'a', 'w', 's', '.', 'F', 'n', 'E', 'x', 'a', 'c', 't', 'P', 'a', 'r', 'k', 'i', 'n', 'g', 'O', 'f', 'P', 'i', 'l', 'e', ' ', 'l', 'o', 'o', 'p', '.', 'e', 'x', 'a', 'm', 'p', 'l', 'e', '/', 'g', '0', '0', '8', '4', '1', '/', 'l', 'a', 'w', 's', '.', 'F', 'n', 'E', 'x', 'a', 'c', 't', 'T', 'i', 'm', 'e', 's', 'C', 'l', 'a', 's', 's', ' ', 'l', 'o', 'o', 'p', '.', 'e', 'x', 'a', 'm', 'p', 'l', 'e', '/', 'g', '0', '0', '8', '4', '1', '/', 'l', 'a', 'w', 's', '.', 'F', 'n', 'E', 'x', 'a', 'c', 't', 'R', 'e', 'c', 'u', 'r', 'r', 'e', 'n', 't', 'O', 'f', ' ', 'l', 'o', 'o', 'p', '.', 'e', 'x', 'a', 'm', 'p', 'l', 'e', '/', 'g', '0', '0', '8', '4', '1', '/', 'l', 'a', 'w', 's', '.', 'F', 'n', 'E', 'x', 'a', 'c', 't', 'I', 'n', 'v', 'e', 'r', 's', 'e', 'P', 'i', 'l', 'e'] := by kernel_rfl
  exact (congrArg String.toList h).trans String.toList_ofList
theorem iniW : behindMainWord (wordsSigns Try.prog.initOrder.toList) = [['c', 'u', 't'], ['a', 't'], ['l', 'o', 'o', 'p', '.', 'e', 'x', 'a', 'm', 'p', 'l', 'e', '/', 'g', '0', '0', '8', '4', '1', '/', 'l', 'a', 'w', 's', '.', 'F', 'n', 'E', 'x', 'a', 'c', 't', 'R', 'o', 'w', 'O', 'f', 'O', 'n', 'e'], ['l', 'o', 'o', 'p', '.', 'e', 'x', 'a', 'm', 'p', 'l', 'e', '/', 'g', '0', '0', '8', '4', '1', '/', 'l', 'a', 'w', 's', '.', 'F', 'n', 'E', 'x', 'a', 'c', 't', 'I', 's', 'T', 'r', 'e', 'e', 'S', 't', 'a', 't', 'e'], ['l', 'o', 'o', 'p', '.', 'e', 'x', 'a', 'm', 'p', 'l', 'e', '/', 'g', '0', '0', '8', '4', '1', '/', 'l', 'a', 'w', 's', '.', 'F', 'n', 'E', 'x', 'a', 'c', 't', 'F', 'u', 'l', 'l', 'P', 'i', 'l', 'e'], ['l', 'o', 'o', 'p', '.', 'e', 'x', 'a', 'm', 'p', 'l', 'e', '/', 'g', '0', '0', '8', '4', '1', '/', 'l', 'a', 'w', 's', '.', 'F', 'n', 'E', 'x', 'a', 'c', 't', 'I', 's', 'A', 'c', 'y', 'c', 'l', 'i', 'c'], ['l', 'o', 'o', 'p', '.', 'e', 'x', 'a', 'm', 'p', 'l', 'e', '/', 'g', '0', '0', '8', '4', '1', '/', 'l', 'a', 'w', 's', '.', 'F', 'n', 'E', 'x', 'a', 'c', 't', 'D', 'i', 'v', 'i', 's', 'o', 'r', 'O', 'f', 'O', 'r', 'i', 'e', 'n', 't'], ['l', 'o', 'o', 'p', '.', 'e', 'x', 'a', 'm', 'p', 'l', 'e', '/', 'g', '0', '0', '8', '4', '1', '/', 'l', 'a', 'w', 's', '.', 'F', 'n', 'E', 'x', 'a', 'c', 't', 'S', 't', 'e', 'p', 'W', 'a', 'l', 'k', 'e', 'r'], ['l', 'o', 'o', 'p', '.', 'e', 'x', 'a', 'm', 'p', 'l', 'e', '/', 'g', '0', '0', '8', '4', '1', '/', 'l', 'a', 'w', 's', '.', 'F', 'n', 'E', 'x', 'a', 'c', 't', 'W', 'a', 'l', 'k', 'T', 'o', 'S', 'i', 'n', 'k'], ['l', 'o', 'o', 'p', '.', 'e', 'x', 'a', 'm', 'p', 'l', 'e', '/', 'g', '0', '0', '8', '4', '1', '/', 'l', 'a', 'w', 's', '.', 'F', 'n', 'E', 'x', 'a', 'c', 't', 'S', 'o', 'u', 'r', 'c', 'e', 's', 'O', 'f'], ['l', 'o', 'o', 'p', '.', 'e', 'x', 'a', 'm', 'p', 'l', 'e', '/', 'g', '0', '0', '8', '4', '1', '/', 'l', 'a', 'w', 's', '.', 'F', 'n', 'E', 'x', 'a', 'c', 't', 'S', 't', 'a', 't', 'e', 'O', 'f', 'T', 'r', 'e', 'e'], ['l', 'o', 'o', 'p', '.', 'e', 'x', 'a', 'm', 'p', 'l', 'e', '/', 'g', '0', '0', '8', '4', '1', '/', 'l', 'a', 'w', 's', '.', 'F', 'n', 'E', 'x', 'a', 'c', 't', 'I', 's', 'P', 'a', 'r', 'k', 'i', 'n', 'g'], ['l', 'o', 'o', 'p', '.', 'e', 'x', 'a', 'm', 'p', 'l', 'e', '/', 'g', '0', '0', '8', '4', '1', '/', 'l', 'a', 'w', 's', '.', 'F', 'n', 'E', 'x', 'a', 'c', 't', 'T', 'o', 'p', 'p', 'l', 'e'], ['l', 'o', 'o', 'p', '.', 'e', 'x', 'a', 'm', 'p', 'l', 'e', '/', 'g', '0', '0', '8', '4', '1', '/', 'l', 'a', 'w', 's', '.', 'F', 'n', 'E', 'x', 'a', 'c', 't', 'F', 'l', 'i', 'p', 'S', 'o', 'u', 'r', 'c', 'e'], ['l', 'o', 'o', 'p', '.', 'e', 'x', 'a', 'm', 'p', 'l', 'e', '/', 'g', '0', '0', '8', '4', '1', '/', 'l', 'a', 'w', 's', '.', 'F', 'n', 'E', 'x', 'a', 'c', 't', 'C', 'o', 'u', 'n', 't', 'A', 'c', 'y', 'c', 'l', 'i', 'c'], ['l', 'o', 'o', 'p', '.', 'e', 'x', 'a', 'm', 'p', 'l', 'e', '/', 'g', '0', '0', '8', '4', '1', '/', 'l', 'a', 'w', 's', '.', 'F', 'n', 'E', 'x', 'a', 'c', 't', 'A', 'v', 'a', 'l', 'a', 'n', 'c', 'h', 'e', 'S', 'i', 'z', 'e'], ['l', 'o', 'o', 'p', '.', 'e', 'x', 'a', 'm', 'p', 'l', 'e', '/', 'g', '0', '0', '8', '4', '1', '/', 'l', 'a', 'w', 's', '.', 'F', 'n', 'E', 'x', 'a', 'c', 't', 'S', 't', 'a', 'b', 'i', 'l', 'i', 'z', 'e'], ['l', 'o', 'o', 'p', '.', 'e', 'x', 'a', 'm', 'p', 'l', 'e', '/', 'g', '0', '0', '8', '4', '1', '/', 'l', 'a', 'w', 's', '.', 'F', 'n', 'E', 'x', 'a', 'c', 't', 'O', 'r', 'i', 'e', 'n', 't', 'B', 'y', 'B', 'u', 'r', 'n', 'i', 'n', 'g'], ['l', 'o', 'o', 'p', '.', 'e', 'x', 'a', 'm', 'p', 'l', 'e', '/', 'g', '0', '0', '8', '4', '1', '/', 'l', 'a', 'w', 's', '.', 'F', 'n', 'E', 'x', 'a', 'c', 't', 'S', 'u', 'm', 'O', 'f', 'P', 'i', 'l', 'e', 's'], ['l', 'o', 'o', 'p', '.', 'e', 'x', 'a', 'm', 'p', 'l', 'e', '/', 'g', '0', '0', '8', '4', '1', '/', 'l', 'a', 'w', 's', '.', 'F', 'n', 'E', 'x', 'a', 'c', 't', 'I', 's', 'R', 'e', 'c', 'u', 'r', 'r', 'e', 'n', 't'], ['l', 'o', 'o', 'p', '.', 'e', 'x', 'a', 'm', 'p', 'l', 'e', '/', 'g', '0', '0', '8', '4', '1', '/', 'l', 'a', 'w', 's', '.', 'F', 'n', 'E', 'x', 'a', 'c', 't', 'D', 'r', 'o', 'p', 'C', 'h', 'i', 'p'], ['l', 'o', 'o', 'p', '.', 'e', 'x', 'a', 'm', 'p', 'l', 'e', '/', 'g', '0', '0', '8', '4', '1', '/', 'l', 'a', 'w', 's', '.', 'F', 'n', 'E', 'x', 'a', 'c', 't', 'L', 'e', 'v', 'e', 'l', 'O', 'f'], ['l', 'o', 'o', 'p', '.', 'e', 'x', 'a', 'm', 'p', 'l', 'e', '/', 'g', '0', '0', '8', '4', '1', '/', 'l', 'a', 'w', 's', '.', 'F', 'n', 'E', 'x', 'a', 'c', 't', 'P', 'i', 'l', 'e', 'O', 'f', 'P', 'a', 'r', 'k', 'i', 'n', 'g'], ['l', 'o', 'o', 'p', '.', 'e', 'x', 'a', 'm', 'p', 'l', 'e', '/', 'g', '0', '0', '8', '4', '1', '/', 'l', 'a', 'w', 's', '.', 'F', 'n', 'E', 'x', 'a', 'c', 't', 'O', 'r', 'd', 'e', 'r', 'O', 'f'], ['l', 'o', 'o', 'p', '.', 'e', 'x', 'a', 'm', 'p', 'l', 'e', '/', 'g', '0', '0', '8', '4', '1', '/', 'l', 'a', 'w', 's', '.', 'F', 'n', 'E', 'x', 'a', 'c', 't', 'S', 'u', 'm', 'O', 'f', 'C', 'l', 'a', 's', 's', 'e', 's'], ['l', 'o', 'o', 'p', '.', 'e', 'x', 'a', 'm', 'p', 'l', 'e', '/', 'g', '0', '0', '8', '4', '1', '/', 'l', 'a', 'w', 's', '.', 'F', 'n', 'E', 'x', 'a', 'c', 't', 'I', 'n', 'v', 'e', 'r', 's', 'e', 'C', 'l', 'a', 's', 's'], ['l', 'o', 'o', 'p', '.', 'e', 'x', 'a', 'm', 'p', 'l', 'e', '/', 'g', '0', '0', '8', '4', '1', '/', 'l', 'a', 'w', 's', '.', 'F', 'n', 'E', 'x', 'a', 'c', 't', 'I', 'd', 'e', 'n', 't', 'i', 't', 'y', 'P', 'i', 'l', 'e'], ['l', 'o', 'o', 'p', '.', 'e', 'x', 'a', 'm', 'p', 'l', 'e', '/', 'g', '0', '0', '8', '4', '1', '/', 'l', 'a', 'w', 's', '.', 'F', 'n', 'E', 'x', 'a', 'c', 't', 'P', 'a', 'r', 'k', 'i', 'n', 'g', 'O', 'f', 'P', 'i', 'l', 'e'], ['l', 'o', 'o', 'p', '.', 'e', 'x', 'a', 'm', 'p', 'l', 'e', '/', 'g', '0', '0', '8', '4', '1', '/', 'l', 'a', 'w', 's', '.', 'F', 'n', 'E', 'x', 'a', 'c', 't', 'T', 'i', 'm', 'e', 's', 'C', 'l', 'a', 's', 's'], ['l', 'o', 'o', 'p', '.', 'e', 'x', 'a', 'm', 'p', 'l', 'e', '/', 'g', '0', '0', '8', '4', '1', '/', 'l', 'a', 'w', 's', '.', 'F', 'n', 'E', 'x', 'a', 'c', 't', 'R', 'e', 'c', 'u', 'r', 'r', 'e', 'n', 't', 'O', 'f'], ['l', 'o', 'o', 'p', '.', 'e', 'x', 'a', 'm', 'p', 'l', 'e', '/', 'g', '0', '0', '8', '4', '1', '/', 'l', 'a', 'w', 's', '.', 'F', 'n', 'E', 'x', 'a', 'c', 't', 'I', 'n', 'v', 'e', 'r', 's', 'e', 'P', 'i', 'l', 'e']] := (congrArg (fun x => behindMainWord (wordsSigns x)) iniS).trans (by kernel_rfl)
theorem mk_cut {P : Program} {r : List (List Char)} (h : behindMainWord (wordsSigns P.initOrder.toList) = ['c', 'u', 't'] :: r) : P.make = some .cut := by
  unfold Program.make
  rw [h]
  rfl
theorem lf_cut {P : Program} {r : List (List Char)} (h : behindMainWord (wordsSigns P.initOrder.toList) = ['c', 'u', 't'] :: r) (k : (stripLifts liftWords (['c', 'u', 't'] :: r)).1 = []) : P.liftsFinal = false := by
  unfold Program.liftsFinal Program.headLifts
  rw [h]
  simp [k]
theorem en_cut {P : Program} {r : List (List Char)} (h : behindMainWord (wordsSigns P.initOrder.toList) = ['c', 'u', 't'] :: r) (k1 : (stripLifts liftWords (['c', 'u', 't'] :: r)).1 = []) (k2 : ((stripLifts liftWords (['c', 'u', 't'] :: r)).2.head? == some "cut".toList) = true) (h1 : P.laysLater = false) (h2 : P.bearsReflect = false) (h3 : P.doorFits [] = true) : P.mayEnter = true := by
  unfold Program.mayEnter
  rw [h]
  simp only [k1, k2, h1, h2, h3]
  simp
theorem make : Try.prog.make = some .cut := mk_cut iniW
theorem lifted : Try.prog.liftsFinal = false := lf_cut iniW (by kernel_rfl)
theorem enter : Try.prog.mayEnter = true := en_cut iniW (by kernel_rfl) (by kernel_rfl) (by kernel_rfl) (by kernel_rfl) (by kernel_rfl)
end Go.Proofs.Ytjecgolakaiddaa.Cf
end

