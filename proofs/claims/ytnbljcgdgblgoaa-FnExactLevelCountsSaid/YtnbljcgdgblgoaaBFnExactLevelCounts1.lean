/- A part of the proof of FnExactLevelCounts. -/
import Derived.Test.YtnbljcgdgblgoaaBFnExactLevelCounts0
import Derived.Deep.LoopGhost
import Derived.Test.YtnbljcgdgblgoaaBFnExactLevelCountsWWords
import Derived.Test.YtnbljcgdgblgoaaBFnExactLevelCountsWApart
import Derived.Test.YtnbljcgdgblgoaaBFnExactLevelCountsWMore
set_option maxHeartbeats 16000000
set_option maxRecDepth 1000000
section
namespace Go.Proofs.Ytnbljcgdgblgoaa.P
open Go.RowKit Go.Proofs.YtnbljcgdgblgoaaW.PrintWords Go.Proofs.YtnbljcgdgblgoaaW.PrintLast Go.Proofs.YtnbljcgdgblgoaaW.PrintMore
attribute [local go_sem] max2_int min2_int max_two min_two max_three min_three max_four min_four
set_option linter.unusedVariables false
set_option linter.unusedSimpArgs false
mutual
def spec_MatrixOk.l0 : Nat → List (List Int) → List (List Int) → Int → Int → Option (Bool)
 | 0, _, _, _, _ => none
 | k + 1, x0, fF, d5, j6 => if j6 < d5 then (if 0 ≤ j6 then (if j6 < (fF.length : Int) then (if ((rd_L3 fF j6).length : Int) = (x0.length : Int) then (spec_MatrixOk.l1 k x0 fF d5 j6 (rd_L3 fF j6) ((rd_L3 fF j6).length : Int) 0) else (some false)) else (none)) else (none)) else (some true)
def spec_MatrixOk.l1 : Nat → List (List Int) → List (List Int) → Int → Int → List Int → Int → Int → Option (Bool)
 | 0, _, _, _, _, _, _, _ => none
 | k + 1, x0, fF, d5, j6, k8, rC, o8 => if o8 < rC then (if 0 ≤ o8 then (if o8 < (k8.length : Int) then ((spec_l01In.f (rd k8 o8) (-500) 500).bind fun bQ => (if bQ = true then (spec_MatrixOk.l1 k x0 fF d5 j6 k8 rC (wrap64 (o8 + 1))) else (some false))) else (none)) else (none)) else (spec_MatrixOk.l0 k x0 fF d5 (wrap64 (j6 + 1)))
end
def spec_MatrixOk.f (k : Nat) (l0 : List (List Int)) : Option (Bool) := if (l0.length : Int) > 6 then (some false) else (spec_MatrixOk.l0 k l0 l0 (l0.length : Int) 0)
theorem spec_MatrixOk.mono_l : ∀ k, (∀ y0 y1 y2 y3, LeO (spec_MatrixOk.l0 k y0 y1 y2 y3) (spec_MatrixOk.l0 (k + 1) y0 y1 y2 y3)) ∧ (∀ y0 y1 y2 y3 y4 y5 y6, LeO (spec_MatrixOk.l1 k y0 y1 y2 y3 y4 y5 y6) (spec_MatrixOk.l1 (k + 1) y0 y1 y2 y3 y4 y5 y6))
 | 0 => ⟨fun _ _ _ _ r h => by simp [spec_MatrixOk.l0] at h, fun _ _ _ _ _ _ _ r h => by simp [spec_MatrixOk.l1] at h⟩
 | k + 1 => by
  obtain ⟨ih0, ih1⟩ := spec_MatrixOk.mono_l k
  refine ⟨?_, ?_⟩
  ·intro y0 y1 y2 y3
   unfold spec_MatrixOk.l0
   exact zm1
  ·intro y0 y1 y2 y3 y4 y5 y6
   unfold spec_MatrixOk.l1
   exact zm1
theorem spec_MatrixOk.mono : ∀ a0 k, LeO (spec_MatrixOk.f k a0) (spec_MatrixOk.f (k + 1) a0) := by
 intro a0 k; obtain ⟨ih0, ih1⟩ := spec_MatrixOk.mono_l k; unfold spec_MatrixOk.f; exact zm1
theorem spec_MatrixOk.calls (k : Nat) (A0 : Option Addr) (c0 : Nat) (l0 : List (List Int)) (r : Bool) (w : World) (hr0 : Kd.C (Kd.slice 3 (Kd.int .i64)) w A0 l0.length l0) (hc0 : l0.length ≤ c0) (h : spec_MatrixOk.f k l0 = some r) :
  Calls Try.prog 134 #[.slice A0 l0.length c0] w fun e w' => e = .returned (.bool r) ∧ Drawn0 w w' := by
 have HR0 := zK_ hr0; have HC0 := zK_ hc0; clear hr0 hc0; have H : (if (l0.length : Int) > 6 then (some false) else (spec_MatrixOk.l0 k l0 l0 (l0.length : Int) 0)) = some r := h; clear h; by_cases c2 : (l0.length : Int) > 6
 ·rw [if_pos c2] at H; have j9 : decide (6 < (l0.length : Int)) = true := decide_eq_true c2; have mB : decide (6 < l0.length) = true := decide_eq_true (by omega); clear c2; obtain rfl := Option.some.inj H; go_enter Try.func134, Try.ntmps134; go_wp2; go_ret; exact ⟨zz5, by repeat (first | exact Drawn0.refl _ | apply Drawn0.step)⟩
 rw [if_neg c2] at H; have j9 : decide (6 < (l0.length : Int)) = false := decide_eq_false c2; have mB : decide (6 < l0.length) = false := decide_eq_false (by omega); clear c2; have H' := zK_ H; clear H; go_enter Try.func134, Try.ntmps134; go_wp2; (go_loopg [12] k (fun kq v12 w' => ∃ (dK : Int), v12 = .int .i64 dK ∧ Aside0 (spec_MatrixOk.l0 kq l0 l0 (l0.length : Int) dK = some r) ∧ Aside0 (kq ≤ k) ∧ Drawn0 w w')); case atStart => exact ⟨(0), zz5, H', ⟨Nat.le_refl _⟩, by repeat (first | exact Drawn0.refl _ | apply Drawn0.step)⟩
 case round =>
  clear H'; (try clear c1); (try clear c2); (try clear j9); (try clear mB); (try clear p2); obtain ⟨dK, rfl, HA, HK1, ⟨m1, rfl⟩⟩ := hrel
  cases gk with
  | zero => exact absurd HA.out (by simp [spec_MatrixOk.l0])
  | succ k1 =>
   have H := HA.out; clear HA; simp only [spec_MatrixOk.l0] at H; by_cases c3 : dK < (l0.length : Int); rotate_left
   ·rw [if_neg c3] at H; have dU := decide_eq_false c3; (try (have iC := dU; first | rw [cO] at iC | rw [← cO] at iC)); clear c3; obtain rfl := Option.some.inj H; go_wp2; go_ret; exact ⟨zz5, by repeat (first | exact Drawn0.refl _ | apply Drawn0.step)⟩
   rw [if_pos c3] at H; have dU := decide_eq_true c3; clear c3; by_cases c4 : 0 ≤ dK; rotate_left
   ·rw [if_neg c4] at H; exact absurd H (by simp)
   rw [if_pos c4] at H; have dI := decide_eq_true c4; clear c4; by_cases c5 : dK < (l0.length : Int); rotate_left
   ·rw [if_neg c5] at H; exact absurd H (by simp)
   rw [if_pos c5] at H; have dS := decide_eq_true c5; clear c5; by_cases c6 : ((rd_L3 l0 dK).length : Int) = (l0.length : Int); rotate_left
   ·rw [if_neg c6] at H; have eS : (((rd_L3 l0 dK).length : Int) == (l0.length : Int)) = false := beq_eq_false_iff_ne.mpr c6; have lB : (((rd_L3 l0 dK).length : Int) != (l0.length : Int)) = true := bne_iff_ne.mpr c6; (have rW : ((rd_L3 l0 dK).length == l0.length) = false := by first | simpa using c6 | (simp at c6 ⊢; omega)); obtain rfl := Option.some.inj H; have p101 : 0 ≤ (dK : Int) := of_decide_eq_true zz4; have q101 : dK < (l0.length : Int) := of_decide_eq_true zz4; obtain ⟨cR, A101_0, c101_0, e101, a7, cO, hi101_0⟩ := at_L3 HR0.out dK p101 q101; cases e101; have HR101_0 := zK_ hi101_0; have HC101_0 := zK_ cO; clear hi101_0 cO; replace p101 := eq_true p101; replace q101 := eq_true q101; go_wp2; go_ret; exact ⟨zz5, by repeat (first | exact Drawn0.refl _ | apply Drawn0.step)⟩
   rw [if_pos c6] at H; have eS : (((rd_L3 l0 dK).length : Int) == (l0.length : Int)) = true := beq_iff_eq.mpr c6; have lB : (((rd_L3 l0 dK).length : Int) != (l0.length : Int)) = false := bne_eq_false_iff_eq.mpr c6; (have rW : ((rd_L3 l0 dK).length == l0.length) = true := by first | simpa using c6 | (simp at c6 ⊢; omega)); clear c6; have H' := zK_ H; clear H; have p101 : 0 ≤ (dK : Int) := of_decide_eq_true zz4; have q101 : dK < (l0.length : Int) := of_decide_eq_true zz4; obtain ⟨cR, A101_0, c101_0, e101, a7, cO, hi101_0⟩ := at_L3 HR0.out dK p101 q101; cases e101; have HR101_0 := zK_ hi101_0; have HC101_0 := zK_ cO; clear hi101_0 cO; replace p101 := eq_true p101; replace q101 := eq_true q101; go_wp2; (go_loopg [23] k1 (fun kq v23 w' => ∃ (fU : Int), v23 = .int .i64 fU ∧ Aside0 (spec_MatrixOk.l1 kq l0 l0 (l0.length : Int) dK (rd_L3 l0 dK) ((rd_L3 l0 dK).length : Int) fU = some r) ∧ Aside0 (kq ≤ k1) ∧ Drawn0 w w')); case atStart => exact ⟨(0), zz5, H', ⟨Nat.le_refl _⟩, by repeat (first | exact Drawn0.refl _ | apply Drawn0.step)⟩
   case round =>
    clear H'; (try clear c1); (try clear p1); (try clear q1); (try clear hx1); (try clear c2); (try clear j9); (try clear mB); (try clear p2); (try clear c3); (try clear dU); (try clear c4); (try clear dI); (try clear c5); (try clear dS); (try clear c6); (try clear eS); (try clear lB); (try clear rW); (try clear a7); (try clear p101); (try clear p2); (try clear q101); obtain ⟨fU, rfl, HA, HK2, ⟨m2, rfl⟩⟩ := hrel
    cases gk with
    | zero => exact absurd HA.out (by simp [spec_MatrixOk.l1])
    | succ k2 =>
     have H := HA.out; clear HA; simp only [spec_MatrixOk.l1] at H; by_cases c7 : fU < ((rd_L3 l0 dK).length : Int); rotate_left
     ·rw [if_neg c7] at H; have d4 := decide_eq_false c7; (try (have iB := d4; first | rw [cO] at iB | rw [← cO] at iB)); clear c7; have H' := zK_ H; clear H; go_wp2; go_roundg k2; (case measure => have := HK1.out; have := HK2.out; omega); case rel => exact ⟨(wrap64 (dK + 1)), zz5, H', ⟨zz53⟩, by repeat (first | exact Drawn0.refl _ | apply Drawn0.step)⟩
     rw [if_pos c7] at H; have d4 := decide_eq_true c7; (try (have iB := d4; first | rw [cO] at iB | rw [← cO] at iB)); clear c7; by_cases c8 : 0 ≤ fU; rotate_left
     ·rw [if_neg c8] at H; exact absurd H (by simp)
     rw [if_pos c8] at H; have fL := decide_eq_true c8; clear c8; by_cases c9 : fU < ((rd_L3 l0 dK).length : Int); rotate_left
     ·rw [if_neg c9] at H; exact absurd H (by simp)
     rw [if_pos c9] at H; have fN := decide_eq_true c9; (try (have lC := fN; first | rw [cO] at lC | rw [← cO] at lC)); clear c9; obtain ⟨bQ, A100, H⟩ := zO_ H; (try dsimp only at H); have A10 := zK_ A100; clear A100; by_cases c11 : bQ = true; rotate_left
     ·replace c11 := Bool.eq_false_iff.mpr c11; subst c11; rw [if_neg (show ¬ (false = true) by decide)] at H; obtain rfl := Option.some.inj H; have p102 : 0 ≤ (fU : Int) := of_decide_eq_true zz4; have q102 : fU < ((rd_L3 l0 dK).length : Int) := of_decide_eq_true zz4; obtain ⟨dB, e102, bA⟩ := Kd.at_int HR101_0.out fU p102 q102; cases e102; replace p102 := eq_true p102; replace q102 := eq_true q102; (go_wp2_with (first | ((with_reducible refine gate_callee (f := 56) rfl ?_); refine goesL_ (some 28) rfl rfl Try.func56 (by kernel_rfl) rfl #[.int .i64 (rd (rd_L3 l0 dK) fU), .int .i64 (-500), .int .i64 500] rfl zz3 ?_; (with_reducible refine (spec_l01In.calls (rd (rd_L3 l0 dK) fU) (-500) 500 false _ A10.out).mono ?_); rintro e w' ⟨rfl, ⟨nd, rfl⟩⟩; refine ⟨_, rfl, ?_⟩))); go_ret; exact ⟨zz5, by repeat (first | exact Drawn0.refl _ | apply Drawn0.step)⟩
     subst c11; rw [if_pos rfl] at H; have H' := zK_ H; clear H; have p102 : 0 ≤ (fU : Int) := of_decide_eq_true zz4; have q102 : fU < ((rd_L3 l0 dK).length : Int) := of_decide_eq_true zz4; obtain ⟨dB, e102, bA⟩ := Kd.at_int HR101_0.out fU p102 q102; cases e102; replace p102 := eq_true p102; replace q102 := eq_true q102; (go_wp2_with (first | ((with_reducible refine gate_callee (f := 56) rfl ?_); refine goesL_ (some 28) rfl rfl Try.func56 (by kernel_rfl) rfl #[.int .i64 (rd (rd_L3 l0 dK) fU), .int .i64 (-500), .int .i64 500] rfl zz3 ?_; (with_reducible refine (spec_l01In.calls (rd (rd_L3 l0 dK) fU) (-500) 500 true _ A10.out).mono ?_); rintro e w' ⟨rfl, ⟨nd, rfl⟩⟩; refine ⟨_, rfl, ?_⟩))); go_roundg k2; (case measure => have := HK1.out; have := HK2.out; omega); case rel => exact ⟨(wrap64 (fU + 1)), zz5, H', ⟨zz53⟩, by repeat (first | exact Drawn0.refl _ | apply Drawn0.step)⟩
end Go.Proofs.Ytnbljcgdgblgoaa.P
end

section
namespace Go.Proofs.Ytnbljcgdgblgoaa.P
open Go.RowKit Go.Proofs.YtnbljcgdgblgoaaW.PrintWords Go.Proofs.YtnbljcgdgblgoaaW.PrintLast Go.Proofs.YtnbljcgdgblgoaaW.PrintMore
attribute [local go_sem] max2_int min2_int max_two min_two max_three min_three max_four min_four
set_option linter.unusedVariables false
set_option linter.unusedSimpArgs false
mutual
def spec_l03Det.l0 : Nat → List (List Int) → List Int → List Int → Int → Int → List Int → Int → Int → Option (Int)
 | 0, _, _, _, _, _, _, _, _ => none
 | k + 1, x0, x1, x2, x7, x8, iJ, iQ, iP => if iP < iQ then (if 0 ≤ iP then (if iP < (iJ.length : Int) then (if 0 < (x1.length : Int) then (if 0 ≤ (rd x1 0) then (if (rd x1 0) < (x0.length : Int) then (if 0 ≤ (rd iJ iP) then (if (rd iJ iP) < ((rd_L3 x0 (rd x1 0)).length : Int) then (if (rd (rd_L3 x0 (rd x1 0)) (rd iJ iP)) = 0 then (spec_l03Det.l0 k x0 x1 x2 x7 (wrap64 (-x8)) iJ iQ (wrap64 (iP + 1))) else ((some (([] : List Int) : List Int)).bind fun eG => (if iP ≤ (x2.length : Int) then (if eG.length + (x2.take (iP : Int).toNat).length < 17592186044416 then ((some (eG ++ (x2.take (iP : Int).toNat) : List Int)).bind fun bW => (if 0 ≤ (wrap64 (iP + 1)) then (if (wrap64 (iP + 1)) ≤ (x2.length : Int) then (if bW.length + (x2.drop ((wrap64 (iP + 1)) : Int).toNat).length < 17592186044416 then (if 1 ≤ (x1.length : Int) then ((spec_l03Det.f k x0 (x1.drop 1) (bW ++ (x2.drop ((wrap64 (iP + 1)) : Int).toNat))).bind fun kH => (spec_l03Det.l0 k x0 x1 x2 (wrap64 (x7 + (wrap64 ((wrap64 (x8 * (rd (rd_L3 x0 (rd x1 0)) (rd iJ iP)))) * kH)))) (wrap64 (-x8)) iJ iQ (wrap64 (iP + 1)))) else (none)) else (none)) else (none)) else (none))) else (none)) else (none)))) else (none)) else (none)) else (none)) else (none)) else (none)) else (none)) else (none)) else (some x7)
def spec_l03Det.f : Nat → List (List Int) → List Int → List Int → Option (Int)
 | 0, _, _, _ => none
 | k + 1, l0, l1, l2 => if (l1.length : Int) = 0 then (some 1) else (spec_l03Det.l0 k l0 l1 l2 0 1 l2 (l2.length : Int) 0)
end
theorem spec_l03Det.mono_l : ∀ k, (∀ y0 y1 y2, LeO (spec_l03Det.f k y0 y1 y2) (spec_l03Det.f (k + 1) y0 y1 y2)) ∧ (∀ y0 y1 y2 y3 y4 y5 y6 y7, LeO (spec_l03Det.l0 k y0 y1 y2 y3 y4 y5 y6 y7) (spec_l03Det.l0 (k + 1) y0 y1 y2 y3 y4 y5 y6 y7))
 | 0 => ⟨fun _ _ _ r h => by simp [spec_l03Det.f] at h, fun _ _ _ _ _ _ _ _ r h => by simp [spec_l03Det.l0] at h⟩
 | k + 1 => by
  obtain ⟨ih0, ih1⟩ := spec_l03Det.mono_l k
  refine ⟨?_, ?_⟩
  ·intro y0 y1 y2
   unfold spec_l03Det.f
   exact zm1
  ·intro y0 y1 y2 y3 y4 y5 y6 y7
   unfold spec_l03Det.l0
   exact zm1
theorem spec_l03Det.mono : ∀ a0 a1 a2 k, LeO (spec_l03Det.f k a0 a1 a2) (spec_l03Det.f (k + 1) a0 a1 a2) := by
 intro a0 a1 a2 k; obtain ⟨ih0, ih1⟩ := spec_l03Det.mono_l k; exact ih0 a0 a1 a2
def spec_l03Det.T10 : Bool × List (List Nat × List Nat) := (true, [([], []), ([], []), ([], []), ([1, 2], [1, 2]), ([0, 3], [0, 3]), ([], []), ([], []), ([6], [6]), ([5, 7], [5, 7]), ([4, 8, 4], [4, 8]), ([9, 9, 0, 1, 2, 3, 4, 5, 6, 7, 8, 9], [9])])
def spec_l03Det.B10 : List Nat := [0, 0, 0, 6, 15, 0, 0, 64, 224, 511, 1023]
theorem spec_l03Det.tab10 : rtab .any (opsOf Try.f135 10) = spec_l03Det.T10 := by kernel_rfl
theorem spec_l03Det.bits10 : waitsOk spec_l03Det.T10.2 spec_l03Det.B10 = true := by kernel_rfl
theorem spec_l03Det.calls (k : Nat) : ∀ (A0 : Option Addr) (c0 : Nat) (l0 : List (List Int)) (A1 : Option Addr) (c1 : Nat) (l1 : List Int) (A2 : Option Addr) (c2 : Nat) (l2 : List Int) (r : Int) (w : World) (hr0 : Kd.C (Kd.slice 3 (Kd.int .i64)) w A0 l0.length l0) (hc0 : l0.length ≤ c0) (hr1 : Kd.C (Kd.int .i64) w A1 l1.length l1) (hc1 : l1.length ≤ c1) (hr2 : Kd.C (Kd.int .i64) w A2 l2.length l2) (hc2 : l2.length ≤ c2) (h : spec_l03Det.f k l0 l1 l2 = some r),
  Calls Try.prog 135 #[.slice A0 l0.length c0, .slice A1 l1.length c1, .slice A2 l2.length c2] w fun e w' => e = .returned (.int .i64 r) ∧ Below w.heap.size w w' := by
 induction k using Nat.strongRecOn with
 | _ k ih =>
 intro A0 c0 l0 A1 c1 l1 A2 c2 l2 r w hr0 hc0 hr1 hc1 hr2 hc2 h
 cases k with
 | zero => exact absurd h (by simp [spec_l03Det.f])
 | succ k =>
 simp only [spec_l03Det.f] at h; have HR0 := zK_ hr0; have HC0 := zK_ hc0; clear hr0 hc0; have HR1 := zK_ hr1; have HC1 := zK_ hc1; clear hr1 hc1; have HR2 := zK_ hr2; have HC2 := zK_ hc2; clear hr2 hc2; have HB := zK_ (Below.refl w.heap.size w); have H : (if (l1.length : Int) = 0 then (some 1) else (spec_l03Det.l0 k l0 l1 l2 0 1 l2 (l2.length : Int) 0)) = some r := h; clear h; by_cases c4 : (l1.length : Int) = 0
 ·rw [if_pos c4] at H; have dI : ((l1.length : Int) == 0) = true := beq_iff_eq.mpr c4; have j8 : ((l1.length : Int) != 0) = false := bne_eq_false_iff_eq.mpr c4; clear c4; obtain rfl := Option.some.inj H; go_enter Try.func135, Try.ntmps135; go_wp2; go_ret; exact ⟨zz7, zz1⟩
 rw [if_neg c4] at H; have dI : ((l1.length : Int) == 0) = false := beq_eq_false_iff_ne.mpr c4; have j8 : ((l1.length : Int) != 0) = true := bne_iff_ne.mpr c4; (have tI : ¬ (l1 = []) := fun h_ => c4 (by rw [h_]; rfl)); have H' := zK_ H; clear H; go_enter Try.func135, Try.ntmps135; go_wp2; (go_loopg [7, 8, 18] k (fun kq v7 v8 v18 w' => ∃ (b9 : Int) (bD : Int) (bM : Int), v7 = .int .i64 b9 ∧ v8 = .int .i64 bD ∧ v18 = .int .i64 bM ∧ Aside0 (spec_l03Det.l0 kq l0 l1 l2 b9 bD l2 (l2.length : Int) bM = some r) ∧ Aside0 (kq ≤ k) ∧ Aside0 (Below w.heap.size w w'))); case atStart => exact ⟨(0), (1), (0), zz5, zz5, zz5, H', ⟨Nat.le_refl _⟩, ⟨zz1⟩⟩
 case round =>
  clear H'; (try clear c1); (try clear c2); (try clear p2); (try clear c4); (try clear dI); (try clear j8); (try clear tI); obtain ⟨b9, bD, bM, rfl, rfl, rfl, HA, HK1, HB⟩ := hrel
  cases gk with
  | zero => exact absurd HA.out (by simp [spec_l03Det.l0])
  | succ k1 =>
   have H := HA.out; clear HA; simp only [spec_l03Det.l0] at H; by_cases c5 : bM < (l2.length : Int); rotate_left
   ·rw [if_neg c5] at H; have dS := decide_eq_false c5; (try (have lD := dS; first | rw [iN] at lD | rw [← iN] at lD)); clear c5; obtain rfl := Option.some.inj H; go_wp2; go_ret; exact ⟨zz7, zz1⟩
   rw [if_pos c5] at H; have dS := decide_eq_true c5; clear c5; by_cases c6 : 0 ≤ bM; rotate_left
   ·rw [if_neg c6] at H; exact absurd H (by simp)
   rw [if_pos c6] at H; have eS := decide_eq_true c6; clear c6; by_cases c7 : bM < (l2.length : Int); rotate_left
   ·rw [if_neg c7] at H; exact absurd H (by simp)
   rw [if_pos c7] at H; have d4 := decide_eq_true c7; clear c7; by_cases c8 : 0 < (l1.length : Int); rotate_left
   ·rw [if_neg c8] at H; exact absurd H (by simp)
   rw [if_pos c8] at H; have fL := decide_eq_true c8; have pD : decide (0 < l1.length) = true := decide_eq_true (by omega); clear c8; by_cases c9 : 0 ≤ (rd l1 0); rotate_left
   ·rw [if_neg c9] at H; exact absurd H (by simp)
   rw [if_pos c9] at H; have fN := decide_eq_true c9; clear c9; by_cases c10 : (rd l1 0) < (l0.length : Int); rotate_left
   ·rw [if_neg c10] at H; exact absurd H (by simp)
   rw [if_pos c10] at H; have g3 := decide_eq_true c10; clear c10; by_cases c11 : 0 ≤ (rd l2 bM); rotate_left
   ·rw [if_neg c11] at H; exact absurd H (by simp)
   rw [if_pos c11] at H; have k5 := decide_eq_true c11; clear c11; by_cases c12 : (rd l2 bM) < ((rd_L3 l0 (rd l1 0)).length : Int); rotate_left
   ·rw [if_neg c12] at H; exact absurd H (by simp)
   rw [if_pos c12] at H; have kZ := decide_eq_true c12; clear c12; by_cases c13 : (rd (rd_L3 l0 (rd l1 0)) (rd l2 bM)) = 0
   ·rw [if_pos c13] at H; have jE : ((rd (rd_L3 l0 (rd l1 0)) (rd l2 bM)) == 0) = true := beq_iff_eq.mpr c13; have qS : ((rd (rd_L3 l0 (rd l1 0)) (rd l2 bM)) != 0) = false := bne_eq_false_iff_eq.mpr c13; clear c13; have H' := zK_ H; clear H; have p101 : 0 ≤ (bM : Int) := of_decide_eq_true zz4; have q101 : bM < (l2.length : Int) := of_decide_eq_true zz4; obtain ⟨cR, e101, a7⟩ := Kd.at_int HR2.out bM p101 q101; cases e101; replace a7 := (HB.out.cell (World.block_lt_of_cell? w _ a7)).trans a7; replace p101 := eq_true p101; replace q101 := eq_true q101; have p102 : 0 ≤ (0 : Int) := (by omega); have q102 : 0 < (l1.length : Int) := of_decide_eq_true zz4; obtain ⟨dB, e102, bA⟩ := Kd.at_int HR1.out 0 p102 q102; cases e102; have qi102 : (0 < l1.length) = True := eq_true (by omega); (try rw [show ((0 : Int)).toNat = 0 from rfl] at bA); (try rw [Addr.add_zero'] at bA); replace bA := (HB.out.cell (World.block_lt_of_cell? w _ bA)).trans bA; replace p102 := eq_true p102; replace q102 := eq_true q102; have p103 : 0 ≤ ((rd l1 0) : Int) := of_decide_eq_true zz4; have q103 : (rd l1 0) < (l0.length : Int) := of_decide_eq_true zz4; obtain ⟨bG, A103_0, c103_0, e103, aV, iN, hi103_0⟩ := at_L3 HR0.out (rd l1 0) p103 q103; cases e103; replace aV := (HB.out.cell (World.block_lt_of_cell? w _ aV)).trans aV; have HR103_0 := zK_ hi103_0; have HC103_0 := zK_ iN; clear hi103_0 iN; replace p103 := eq_true p103; replace q103 := eq_true q103; have p104 : 0 ≤ ((rd l2 bM) : Int) := of_decide_eq_true zz4; have q104 : (rd l2 bM) < ((rd_L3 l0 (rd l1 0)).length : Int) := of_decide_eq_true zz4; obtain ⟨fZ, e104, bS⟩ := Kd.at_int HR103_0.out (rd l2 bM) p104 q104; cases e104; replace bS := (HB.out.cell (World.block_lt_of_cell? w _ bS)).trans bS; replace p104 := eq_true p104; replace q104 := eq_true q104; go_wp2; go_roundg k1; (case measure => have := HK1.out; omega); case rel => exact ⟨(b9), (wrap64 (-bD)), (wrap64 (bM + 1)), zz5, zz5, zz5, H', ⟨zz36⟩, ⟨zz1⟩⟩
   rw [if_neg c13] at H; have jE : ((rd (rd_L3 l0 (rd l1 0)) (rd l2 bM)) == 0) = false := beq_eq_false_iff_ne.mpr c13; have qS : ((rd (rd_L3 l0 (rd l1 0)) (rd l2 bM)) != 0) = true := bne_iff_ne.mpr c13; obtain ⟨eG, hy_⟩ : ∃ y_ : List Int, y_ = (([] : List Int)) := ⟨_, rfl⟩; (replace H : (if bM ≤ (l2.length : Int) then (if eG.length + (l2.take (bM : Int).toNat).length < 17592186044416 then ((some (eG ++ (l2.take (bM : Int).toNat) : List Int)).bind fun bW => (if 0 ≤ (wrap64 (bM + 1)) then (if (wrap64 (bM + 1)) ≤ (l2.length : Int) then (if bW.length + (l2.drop ((wrap64 (bM + 1)) : Int).toNat).length < 17592186044416 then (if 1 ≤ (l1.length : Int) then ((spec_l03Det.f k1 l0 (l1.drop 1) (bW ++ (l2.drop ((wrap64 (bM + 1)) : Int).toNat))).bind fun kH => (spec_l03Det.l0 k1 l0 l1 l2 (wrap64 (b9 + (wrap64 ((wrap64 (bD * (rd (rd_L3 l0 (rd l1 0)) (rd l2 bM)))) * kH)))) (wrap64 (-bD)) l2 (l2.length : Int) (wrap64 (bM + 1)))) else (none)) else (none)) else (none)) else (none))) else (none)) else (none)) = some r := zzY); have jZ := zK_ hy_; clear hy_; have f9 := eq_true (of_decide_eq_true zz4 : 0 ≤ bM); by_cases c15 : bM ≤ (l2.length : Int); rotate_left
   ·rw [if_neg c15] at H; exact absurd H (by simp)
   rw [if_pos c15] at H; have iY := eq_true c15; have qQ : decide (bM ≤ (l2.length : Int)) = true := decide_eq_true c15; clear c15; by_cases c16 : eG.length + (l2.take (bM : Int).toNat).length < 17592186044416; rotate_left
   ·rw [if_neg c16] at H; exact absurd H (by simp)
   rw [if_pos c16] at H; have q3 := zK_ c16; clear c16; obtain ⟨bW, hy_⟩ : ∃ y_ : List Int, y_ = (eG ++ (l2.take (bM : Int).toNat)) := ⟨_, rfl⟩; (replace H : (if 0 ≤ (wrap64 (bM + 1)) then (if (wrap64 (bM + 1)) ≤ (l2.length : Int) then (if bW.length + (l2.drop ((wrap64 (bM + 1)) : Int).toNat).length < 17592186044416 then (if 1 ≤ (l1.length : Int) then ((spec_l03Det.f k1 l0 (l1.drop 1) (bW ++ (l2.drop ((wrap64 (bM + 1)) : Int).toNat))).bind fun kH => (spec_l03Det.l0 k1 l0 l1 l2 (wrap64 (b9 + (wrap64 ((wrap64 (bD * (rd (rd_L3 l0 (rd l1 0)) (rd l2 bM)))) * kH)))) (wrap64 (-bD)) l2 (l2.length : Int) (wrap64 (bM + 1)))) else (none)) else (none)) else (none)) else (none)) = some r := zzY); have f2 := zK_ hy_; clear hy_; obtain ⟨dH, fK⟩ : ∃ j_ : Int, (wrap64 (bM + 1)) = j_ := ⟨_, rfl⟩; (replace H : (if 0 ≤ (dH) then (if (dH) ≤ (l2.length : Int) then (if bW.length + (l2.drop ((dH) : Int).toNat).length < 17592186044416 then (if 1 ≤ (l1.length : Int) then ((spec_l03Det.f k1 l0 (l1.drop 1) (bW ++ (l2.drop ((dH) : Int).toNat))).bind fun kH => (spec_l03Det.l0 k1 l0 l1 l2 (wrap64 (b9 + (wrap64 ((wrap64 (bD * (rd (rd_L3 l0 (rd l1 0)) (rd l2 bM)))) * kH)))) (wrap64 (-bD)) l2 (l2.length : Int) dH)) else (none)) else (none)) else (none)) else (none)) = some r := by first | (rw [fK] at H; exact H) | (simp only [fK] at H ⊢; exact H)); have zD : (IntKind.i64.wrap (bM + 1)) = dH := (i64_w _).trans fK; by_cases c18 : 0 ≤ (dH); rotate_left
   ·rw [if_neg c18] at H; exact absurd H (by simp)
   rw [if_pos c18] at H; have iW := eq_true c18; have oZ : decide (0 ≤ (dH)) = true := decide_eq_true c18; clear c18; by_cases c19 : (dH) ≤ (l2.length : Int); rotate_left
   ·rw [if_neg c19] at H; exact absurd H (by simp)
   rw [if_pos c19] at H; have mX := eq_true c19; have DL : decide ((dH) ≤ (l2.length : Int)) = true := decide_eq_true c19; clear c19; by_cases c20 : bW.length + (l2.drop ((dH) : Int).toNat).length < 17592186044416; rotate_left
   ·rw [if_neg c20] at H; exact absurd H (by simp)
   rw [if_pos c20] at H; have vU := zK_ c20; clear c20; obtain ⟨o6, hy_⟩ : ∃ y_ : List Int, y_ = (bW ++ (l2.drop ((dH) : Int).toNat)) := ⟨_, rfl⟩; (replace H : (if 1 ≤ (l1.length : Int) then ((spec_l03Det.f k1 l0 (l1.drop 1) o6).bind fun kH => (spec_l03Det.l0 k1 l0 l1 l2 (wrap64 (b9 + (wrap64 ((wrap64 (bD * (rd (rd_L3 l0 (rd l1 0)) (rd l2 bM)))) * kH)))) (wrap64 (-bD)) l2 (l2.length : Int) dH)) else (none)) = some r := zzY); have qU := zK_ hy_; clear hy_; by_cases c21 : 1 ≤ (l1.length : Int); rotate_left
   ·rw [if_neg c21] at H; exact absurd H (by simp)
   rw [if_pos c21] at H; have kC := eq_true c21; have sA : decide (1 ≤ (l1.length : Int)) = true := decide_eq_true c21; clear c21; obtain ⟨kH, A220, H⟩ := zO_ H; (try dsimp only at H); have A22 := zK_ A220; clear A220; have H' := zK_ H; clear H; have p101 : 0 ≤ (bM : Int) := of_decide_eq_true zz4; have q101 : bM < (l2.length : Int) := of_decide_eq_true zz4; obtain ⟨cR, e101, a7⟩ := Kd.at_int HR2.out bM p101 q101; cases e101; replace a7 := (HB.out.cell (World.block_lt_of_cell? w _ a7)).trans a7; replace p101 := eq_true p101; replace q101 := eq_true q101; have p102 : 0 ≤ (0 : Int) := (by omega); have q102 : 0 < (l1.length : Int) := of_decide_eq_true zz4; obtain ⟨dB, e102, bA⟩ := Kd.at_int HR1.out 0 p102 q102; cases e102; have qi102 : (0 < l1.length) = True := eq_true (by omega); (try rw [show ((0 : Int)).toNat = 0 from rfl] at bA); (try rw [Addr.add_zero'] at bA); replace bA := (HB.out.cell (World.block_lt_of_cell? w _ bA)).trans bA; replace p102 := eq_true p102; replace q102 := eq_true q102; have p103 : 0 ≤ ((rd l1 0) : Int) := of_decide_eq_true zz4; have q103 : (rd l1 0) < (l0.length : Int) := of_decide_eq_true zz4; obtain ⟨bG, A103_0, c103_0, e103, aV, iN, hi103_0⟩ := at_L3 HR0.out (rd l1 0) p103 q103; cases e103; replace aV := (HB.out.cell (World.block_lt_of_cell? w _ aV)).trans aV; have HR103_0 := zK_ hi103_0; have HC103_0 := zK_ iN; clear hi103_0 iN; replace p103 := eq_true p103; replace q103 := eq_true q103; have p104 : 0 ≤ ((rd l2 bM) : Int) := of_decide_eq_true zz4; have q104 : (rd l2 bM) < ((rd_L3 l0 (rd l1 0)).length : Int) := of_decide_eq_true zz4; obtain ⟨fZ, e104, bS⟩ := Kd.at_int HR103_0.out (rd l2 bM) p104 q104; cases e104; replace bS := (HB.out.cell (World.block_lt_of_cell? w _ bS)).trans bS; replace p104 := eq_true p104; replace q104 := eq_true q104; (try go_wp2); replace HB := zK_ (below_drew1 HB.out); obtain ⟨i024, hi024, _, hsz24, _⟩ := info_parts info3; obtain ⟨hcut24, hA24, hC24⟩ := print_take_of (P := Try.prog) (Value.int .i64) 0 26 3 .i64 Try.underlying26 hi024 hsz24 (some cR) c2 l2 bM (of_decide_eq_true zz4) (of_decide_eq_true zz4) HC2.out; have HR108 := zK_ (Kd.C_of_reads (h1 := fun _ => rfl) (hA24 _ (Kd.reads_of_C HR2.out))); have HC108 := zK_ hC24; clear hA24 hC24 hi024 hsz24; obtain ⟨i025, hi025, _, hsz25, _⟩ := info_parts info3; obtain ⟨A25, hcut25, hA25, hC25⟩ := print_drop_of (P := Try.prog) (Value.int .i64) 0 26 3 .i64 Try.underlying26 hi025 hsz25 (some cR) c2 l2 (dH) (of_decide_eq_true zz4) (of_decide_eq_true zz4) HC2.out; have HR112 := zK_ (Kd.C_of_reads (h1 := fun _ => rfl) (hA25 _ (Kd.reads_of_C HR2.out))); have HC112 := zK_ hC25; clear hA25 hC25 hi025 hsz25; refine start_ (n := 11) (S := fun w' => True) (ds := []) (zM 11 0) (by kernel_rfl) rfl rfl trivial (fun hHeld => ?_); refine with_tabW spec_l03Det.tab10 spec_l03Det.bits10 (fun HT_ HW_ => ?_); generalize wr.drew = w23 at HB HR108 HR112 hHeld ⊢; refine zQ 1 35 (zM 11 2) ?_
   refine zQ 2 36 (zM 11 6) ?_
   refine zQ 3 37 (zM 11 14) ?_
   refine zQ 5 39 (zM 11 46) ?_
   refine zQ 6 40 (zM 11 110) ?_
   refine zQ 7 41 (zM 11 238) ?_
   refine zQ 8 42 (zM 11 494) ?_
   refine one_ (i := 0) (N := some 34) (zM 11 495) rfl rfl (one_of HT_.out (by kernel_rfl)) (by decide) (fun K hK => ?_); refine Kd.R_lit_step (Kd.int .i64) _ 3 ?hg (N := 34) ?hd (xs := ([] : List Int)) (inner := []) (ok := fun _ => True) (okp := fun _ => True) ?hr ?hp (fun _ hk => hk) trivial (Below.refl _ _) (Nat.le_refl _) (by simp) ?_; (case hd => rfl); (case hg => rfl); (case hr => exact zz9); (case hp => exact (Reps.none _ _)); intro v106 w26 ho27 hb hg_ hnew_; clear hg_ hnew_; (first | rw [← jZ.out] at ho27 | (simp only [Int.reduceToNat] at ho27; rw [← jZ.out] at ho27)); have n_ := zA2 (Kd.R_lower ho27 (below_size zz1)) (below_step zz1 hb); clear HB; obtain ⟨dE, HB⟩ := n_; clear hb ho27; refine hK.out _ _ trivial (fun hHeld => ?_); clear hK K; refine norm_ (a' := ?_) ?_ ?_; rotate_left
   ·show Act.put _ (some 34) _ = _; exact zzS
   refine one_ (i := 4) (N := some 38) (zM 11 511) rfl rfl (one_of HT_.out (by kernel_rfl)) (by decide) (fun K hK => ?_); refine Kd.R_append_rows_step (Kd.int .i64) (w0 := w) w.heap.size (by rfl) (.tmp 34) (.tmp 37) 26 3 (.int .i64 0) 8 rfl Try.underlying26 info3 rfl (by decide) (by omega) v106 eG (l2.take (bM : Int).toNat) _ _ _ (fun _ => True) (fun _ => False) rfl rfl ?aO ?aR (fun _ _ h => h) (fun _ h => h.elim) ?aF ?aB ?aS ?aL ?_; (case aR => first | exact (Kd.C_below HR108.out HB.out) | (have h__ := (Kd.C_below HR108.out HB.out); rw [show (l2.take (bM : Int).toNat).length = bM.toNat from (by rw [List.length_take]; have h_ : (bM : Int) ≤ (l2.length : Int) := of_decide_eq_true zz4; omega)] at h__; exact h__) | (rw [← show (l2.take (bM : Int).toNat).length = bM.toNat from (by rw [List.length_take]; have h_ : (bM : Int) ≤ (l2.length : Int) := of_decide_eq_true zz4; omega)]; repeat (first | exact (Kd.C_below HR108.out HB.out) | (with_reducible refine Kd.C_alloc ?_ _) | (with_reducible refine Kd.C_drewN ?_ _) | (with_reducible refine Kd.C_drew ?_))) | (repeat (first | exact (Kd.C_below HR108.out HB.out) | (with_reducible refine Kd.C_alloc ?_ _) | (with_reducible refine Kd.C_drewN ?_ _) | (with_reducible refine Kd.C_drew ?_)))); (case aB => exact zz1); (case aF => exact (fun _ _ => trivial)); (case aO => exact (by (with_reducible repeat (first | apply Kd.R_alloc | apply Kd.R_drewN | apply Kd.R_drew)); exact dE.out)); (case aS => exact (below_size zz1)); (case aL => have := q3.out; have hlx_ := (show (l2.take (bM : Int).toNat).length = bM.toNat from (by rw [List.length_take]; have h_ : (bM : Int) ≤ (l2.length : Int) := of_decide_eq_true zz4; omega)); omega); intro v110 w28 ho hb hg hat; rw [← f2.out] at ho; have n_ := zA2 hb ho; clear HB dE; obtain ⟨HB, bU⟩ := n_; clear ho hb hg hat; refine hK.out _ _ trivial (fun hHeld => ?_); clear hK K; refine norm_ (a' := ?_) ?_ ?_; rotate_left
   ·show Act.put _ (some 38) _ = _; exact zzS
   refine one_ (i := 9) (N := some 43) (zM 11 1023) rfl rfl (one_of HT_.out (by kernel_rfl)) (by decide) (fun K hK => ?_); refine Kd.R_append_rows_step (Kd.int .i64) (w0 := w) w.heap.size (by rfl) (.tmp 38) (.tmp 42) 26 3 (.int .i64 0) 8 rfl Try.underlying26 info3 rfl (by decide) (by omega) v110 bW (l2.drop ((dH) : Int).toNat) _ _ _ (fun _ => True) (fun _ => False) rfl rfl ?aO ?aR (fun _ _ h => h) (fun _ h => h.elim) ?aF ?aB ?aS ?aL ?_; (case aR => first | exact (Kd.C_below HR112.out HB.out) | (have h__ := (Kd.C_below HR112.out HB.out); rw [show (l2.drop ((dH) : Int).toNat).length = (l2.length - (dH).toNat) from List.length_drop] at h__; exact h__) | (rw [← show (l2.drop ((dH) : Int).toNat).length = (l2.length - (dH).toNat) from List.length_drop]; repeat (first | exact (Kd.C_below HR112.out HB.out) | (with_reducible refine Kd.C_alloc ?_ _) | (with_reducible refine Kd.C_drewN ?_ _) | (with_reducible refine Kd.C_drew ?_))) | (repeat (first | exact (Kd.C_below HR112.out HB.out) | (with_reducible refine Kd.C_alloc ?_ _) | (with_reducible refine Kd.C_drewN ?_ _) | (with_reducible refine Kd.C_drew ?_)))); (case aB => exact zz1); (case aF => exact (fun _ _ => trivial)); (case aO => exact (by (with_reducible repeat (first | apply Kd.R_alloc | apply Kd.R_drewN | apply Kd.R_drew)); exact bU.out)); (case aS => exact (below_size zz1)); (case aL => have := vU.out; have hlx_ := (show (l2.drop ((dH) : Int).toNat).length = (l2.length - (dH).toNat) from List.length_drop); omega); intro v114 w29 ho hb hg hat; rw [← qU.out] at ho; have n_ := zA2 hb ho; clear HB bU; obtain ⟨HB, kF⟩ := n_; clear ho hb hg hat; refine hK.out _ _ trivial (fun hHeld => ?_); clear hK K; refine norm_ (a' := ?_) ?_ ?_; rotate_left
   ·show Act.put _ (some 43) _ = _; exact zzS
   refine zQ 10 12 (zM 11 2047) ?_
   refine done_ (done_of HT_.out (by kernel_rfl)) ?_; obtain ⟨i030, hi030, _, hsz30, _⟩ := info_parts info3; obtain ⟨A30, hcut30, hA30, hC30⟩ := print_drop_of (P := Try.prog) (Value.int .i64) 0 26 3 .i64 Try.underlying26 hi030 hsz30 (some dB) c1 l1 1 (by omega) (of_decide_eq_true zz4) HC1.out; have HR116 := zK_ (Kd.C_of_reads (h1 := fun _ => rfl) (hA30 _ (Kd.reads_of_C HR1.out))); have HC116 := zK_ hC30; clear hA30 hC30 hi030 hsz30; obtain ⟨Ao31, co31, tE⟩ := Kd.R_slice kF.out; subst tE; (try go_wp2_with (first | ((with_reducible refine gate_callee (f := 135) rfl ?_); refine goesL_ (some 52) rfl rfl Try.func135 (by kernel_rfl) rfl #[.slice (some bG) l0.length c0, .slice A30 (l1.drop 1).length (c1 - 1), .slice Ao31 o6.length co31] rfl (by (try simp only [List.map_toArray, List.map_cons, List.map_nil]); first | done | (rw [show (l1.drop 1).length = (l1.length - 1) from List.length_drop] <;> rfl) | rfl | (simp only [List.length_drop, List.length_take]; rfl)) ?_; (with_reducible refine (ih k1 (by have := HK1.out; omega) _ _ l0 _ _ (l1.drop 1) _ _ o6 kH _ ?side1 ?side2 ?side3 ?side4 ?side5 ?side6 A22.out).mono ?_); (case side1 => exact zz46); (case side2 => exact HC0.out); (case side3 => repeat (first | exact (Kd.C_below HR116.out HB.out) | (with_reducible refine Kd.C_alloc ?_ _) | (with_reducible refine Kd.C_drewN ?_ _) | (with_reducible refine Kd.C_drew ?_))); (case side4 => exact HC116.out); (case side5 => repeat (first | exact (Kd.R_reads' kF.out).2.2 | (with_reducible refine Kd.C_alloc ?_ _) | (with_reducible refine Kd.C_drewN ?_ _) | (with_reducible refine Kd.C_drew ?_))); (case side6 => exact (Kd.R_reads' kF.out).2.1); rintro e w32 ⟨rfl, hb⟩; refine ⟨_, rfl, ?_⟩; have n_ := zA2 (Kd.R_below (by (with_reducible repeat (first | apply Kd.R_alloc | apply Kd.R_drewN | apply Kd.R_drew)); exact kF.out) hb) (below_step zz1 hb); clear kF HB; obtain ⟨kF, HB⟩ := n_; clear hb))); go_roundg k1; (case measure => have := HK1.out; omega); case rel => exact ⟨(wrap64 (b9 + (wrap64 ((wrap64 (bD * (rd (rd_L3 l0 (rd l1 0)) (rd l2 bM)))) * kH)))), (wrap64 (-bD)), (dH), zz5, zz5, (by first | rfl | (simp; done) | (simp only [← fK] <;> (first | rfl | simp)) | (simp [*]; done)), H', ⟨zz36⟩, ⟨zz1⟩⟩
end Go.Proofs.Ytnbljcgdgblgoaa.P
end

section
namespace Go.Proofs.Ytnbljcgdgblgoaa.P
open Go.RowKit Go.Proofs.YtnbljcgdgblgoaaW.PrintWords Go.Proofs.YtnbljcgdgblgoaaW.PrintLast Go.Proofs.YtnbljcgdgblgoaaW.PrintMore
attribute [local go_sem] max2_int min2_int max_two min_two max_three min_three max_four min_four
set_option linter.unusedVariables false
set_option linter.unusedSimpArgs false
def spec_l03All.l0 : Nat → Int → List Int → Int → Option (List Int)
 | 0, _, _, _ => none
 | k + 1, x0, x3, x4 => if x4 < x0 then (if x3.length < 17592186044416 then (spec_l03All.l0 k x0 (x3 ++ [x4]) (wrap64 (x4 + 1))) else (none)) else (some x3)
def spec_l03All.f (k : Nat) (a0 : Int) : Option (List Int) := spec_l03All.l0 k a0 (([] : List Int)) 0
theorem spec_l03All.mono_l : ∀ k, (∀ y0 y1 y2, LeO (spec_l03All.l0 k y0 y1 y2) (spec_l03All.l0 (k + 1) y0 y1 y2))
 | 0 => fun _ _ _ r h => by simp [spec_l03All.l0] at h
 | k + 1 => by
  have ih0 := spec_l03All.mono_l k
  ·intro y0 y1 y2
   unfold spec_l03All.l0
   exact zm0
theorem spec_l03All.mono : ∀ a0 k, LeO (spec_l03All.f k a0) (spec_l03All.f (k + 1) a0) := by
 intro a0 k; have ih0 := spec_l03All.mono_l k; unfold spec_l03All.f; exact zm0
theorem spec_l03All.calls (k : Nat) (a0 : Int) (r : List Int) (w : World) (h : spec_l03All.f k a0 = some r) :
  Calls Try.prog 136 #[.int .i64 a0] w fun e w' => ∃ v0_ : Value, e = .returned (v0_) ∧ Kd.R (Kd.int .i64) 3 w' w.heap.size (fun _ => True) v0_ r ∧ Below w.heap.size w w' := by
 have HB := zK_ (Below.refl w.heap.size w); have H : (spec_l03All.l0 k a0 (([] : List Int)) 0) = some r := h; clear h; obtain ⟨eY, hy_⟩ : ∃ y_ : List Int, y_ = (([] : List Int)) := ⟨_, rfl⟩; (replace H : (spec_l03All.l0 k a0 eY 0) = some r := zzY); have gA := zK_ hy_; clear hy_; have H' := zK_ H; clear H; go_enter Try.func136, Try.ntmps136; (go_wp2_with (first | ((with_reducible refine gate_dst (N := 5) rfl ?_); refine Kd.R_lit (Kd.int .i64) _ 3 ?hg (N := 5) ?hd (xs := ([] : List Int)) (inner := []) (ok := fun _ => True) (okp := fun _ => True) ?hr ?hp (fun _ hk => hk) trivial (Below.refl _ _) (Nat.le_refl _) (by simp) ?_; (case hd => rfl); (case hg => rfl); (case hr => exact zz9); (case hp => exact (Reps.none _ _)); intro v102 w2 ho3 hb hg_ hnew_; clear hg_ hnew_; (first | rw [← gA.out] at ho3 | (simp only [Int.reduceToNat] at ho3; rw [← gA.out] at ho3)); have n_ := zA2 (Kd.R_lower ho3 (below_size zz1)) (below_step zz1 hb); clear HB; obtain ⟨j5, HB⟩ := n_; clear hb ho3))); (go_loopg [3, 4] k (fun kq v3 v4 w' => ∃ (bP : List Int) (aX : Int), v4 = .int .i64 aX ∧ Aside0 (spec_l03All.l0 kq a0 bP aX = some r) ∧ Aside0 (kq ≤ k) ∧ Aside0 (Kd.R (Kd.int .i64) 3 w' w.heap.size (fun _ => True) v3 bP) ∧ Aside0 (Below w.heap.size w w'))); case atStart => exact ⟨(eY), (0), zz5, H', ⟨Nat.le_refl _⟩, ⟨zz40⟩, ⟨zz1⟩⟩
 case round =>
  clear H'; (try clear c1); (try clear p2); obtain ⟨bP, aX, rfl, HA, HK1, bC, HB⟩ := hrel
  cases gk with
  | zero => exact absurd HA.out (by simp [spec_l03All.l0])
  | succ k1 =>
   have H := HA.out; clear HA; simp only [spec_l03All.l0] at H; by_cases c4 : aX < a0; rotate_left
   ·rw [if_neg c4] at H; have dI := decide_eq_false c4; clear c4; obtain rfl := Option.some.inj H; go_wp2; go_ret; exact ⟨_, zz7, zz18, zz1⟩
   rw [if_pos c4] at H; have dI := decide_eq_true c4; clear c4; by_cases c5 : bP.length < 17592186044416; rotate_left
   ·rw [if_neg c5] at H; exact absurd H (by simp)
   rw [if_pos c5] at H; have BA := zK_ c5; clear c5; obtain ⟨pH, hy_⟩ : ∃ y_ : List Int, y_ = (bP ++ [aX]) := ⟨_, rfl⟩; (replace H : (spec_l03All.l0 k1 a0 pH (wrap64 (aX + 1))) = some r := zzY); have o5 := zK_ hy_; clear hy_; have H' := zK_ H; clear H; (go_wp2_with (first | ((with_reducible refine gate_builtin (b := .append) (xs := #[.tmp 11, .tmp 13]) rfl ?_); at_builtin; refine Kd.R_append (Kd.int .i64) (w0 := w) w.heap.size rfl (.tmp 11) (.tmp 13) 26 3 (.int .i64 0) 8 rfl Try.underlying26 info3 rfl (by decide) (by omega) u3 bP aX [.int .i64 aX] (fun _ => True) (fun _ => False) rfl rfl ?aP (fun _ hk => hk.elim) ?aF ?aO ?aB ?aS ?aL ?_; (case aP => exact rfl); (case aB => exact zz1); (case aF => exact (fun _ _ => trivial)); (case aO => exact zz18); (case aS => exact (below_size zz1)); (case aL => have := BA.out; omega); intro v105 w6 ho hb hg hat; rw [← o5.out] at ho; have n_ := zA2 hb ho; clear HB bC; obtain ⟨HB, eE⟩ := n_; clear ho hb hg hat))); go_roundg k1; (case measure => have := HK1.out; omega); case rel => exact ⟨(pH), (wrap64 (aX + 1)), zz5, H', ⟨zz36⟩, ⟨by (with_reducible repeat (first | apply Kd.R_alloc | apply Kd.R_drewN | apply Kd.R_drew)); exact eE.out⟩, ⟨zz1⟩⟩
def spec_Determinant.f (k : Nat) (l0 : List (List Int)) : Option (Int) := (spec_MatrixOk.f k l0).bind fun dG => (if dG = true then ((spec_l03All.f k (l0.length : Int)).bind fun aQ => ((spec_l03All.f k (l0.length : Int)).bind fun dA => ((spec_l03Det.f k l0 aQ dA).bind fun f4 => (some f4)))) else (some 0))
theorem spec_Determinant.mono : ∀ a0 k, LeO (spec_Determinant.f k a0) (spec_Determinant.f (k + 1) a0) := by
 intro a0 k; unfold spec_Determinant.f; repeat' first | (with_reducible apply spec_MatrixOk.mono) | (with_reducible apply spec_l03All.mono) | (with_reducible apply spec_l03Det.mono) | (with_reducible exact LeO.refl _) | (with_reducible exact LeO.none _) | (with_reducible refine LeO.ite ?_ ?_) | (with_reducible refine LeO.bind ?_ (fun _ => ?_)) | apply spec_MatrixOk.mono | apply spec_l03All.mono | apply spec_l03Det.mono | exact LeO.none _ | refine LeO.ite ?_ ?_ | refine LeO.bind ?_ (fun _ => ?_)
theorem spec_Determinant.calls (k : Nat) (A0 : Option Addr) (c0 : Nat) (l0 : List (List Int)) (r : Int) (w : World) (hr0 : Kd.C (Kd.slice 3 (Kd.int .i64)) w A0 l0.length l0) (hc0 : l0.length ≤ c0) (h : spec_Determinant.f k l0 = some r) :
  Calls Try.prog 106 #[.slice A0 l0.length c0] w fun e w' => e = .returned (.int .i64 r) ∧ Below w.heap.size w w' := by
 have HR0 := zK_ hr0; have HC0 := zK_ hc0; clear hr0 hc0; have HB := zK_ (Below.refl w.heap.size w); have H : ((spec_MatrixOk.f k l0).bind fun dG => (if dG = true then ((spec_l03All.f k (l0.length : Int)).bind fun aQ => ((spec_l03All.f k (l0.length : Int)).bind fun dA => ((spec_l03Det.f k l0 aQ dA).bind fun f4 => (some f4)))) else (some 0))) = some r := h; clear h; obtain ⟨dG, A20, H⟩ := zO_ H; (try dsimp only at H); have A2 := zK_ A20; clear A20; by_cases c3 : dG = true; rotate_left
 ·replace c3 := Bool.eq_false_iff.mpr c3; subst c3; rw [if_neg (show ¬ (false = true) by decide)] at H; obtain rfl := Option.some.inj H; go_enter Try.func106, Try.ntmps106; (go_wp2_with (first | ((with_reducible refine gate_callee (f := 134) rfl ?_); refine goesL_ (some 4) rfl rfl Try.func134 (by kernel_rfl) rfl #[.slice A0 l0.length c0] rfl zz3 ?_; (with_reducible refine (spec_MatrixOk.calls k _ _ l0 false _ ?side1 ?side2 A2.out).mono ?_); (case side1 => exact zz24); (case side2 => exact HC0.out); rintro e w' ⟨rfl, ⟨nd, rfl⟩⟩; refine ⟨_, rfl, ?_⟩))); go_ret; exact ⟨zz7, zz1⟩
 subst c3; rw [if_pos rfl] at H; obtain ⟨aQ, A40, H⟩ := zO_ H; (try dsimp only at H); have A4 := zK_ A40; clear A40; obtain ⟨dA, A50, H⟩ := zO_ H; (try dsimp only at H); have A5 := zK_ A50; clear A50; obtain ⟨f4, A60, H⟩ := zO_ H; (try dsimp only at H); have A6 := zK_ A60; clear A60; obtain rfl := Option.some.inj H; go_enter Try.func106, Try.ntmps106; (go_wp2_with (first | ((with_reducible refine gate_callee (f := 134) rfl ?_); refine goesL_ (some 4) rfl rfl Try.func134 (by kernel_rfl) rfl #[.slice A0 l0.length c0] rfl zz3 ?_; (with_reducible refine (spec_MatrixOk.calls k _ _ l0 true _ ?side1 ?side2 A2.out).mono ?_); (case side1 => exact zz24); (case side2 => exact HC0.out); rintro e w' ⟨rfl, ⟨nd, rfl⟩⟩; refine ⟨_, rfl, ?_⟩) | ((with_reducible refine gate_callee (f := 136) rfl ?_); refine goesL_ (some 9) rfl rfl Try.func136 (by kernel_rfl) rfl #[.int .i64 (l0.length : Int)] rfl zz3 ?_; (with_reducible refine (spec_l03All.calls k (l0.length : Int) aQ _ A4.out).mono ?_); rintro e w7 ⟨v103, rfl, ho0, hb⟩; refine ⟨_, rfl, ?_⟩; have n_ := zA2 (Kd.R_lower ho0 (below_size zz1)) (below_step zz1 hb); clear HB; obtain ⟨bT, HB⟩ := n_; clear ho0 hb) | ((with_reducible refine gate_callee (f := 136) rfl ?_); refine goesL_ (some 12) rfl rfl Try.func136 (by kernel_rfl) rfl #[.int .i64 (l0.length : Int)] rfl zz3 ?_; (with_reducible refine (spec_l03All.calls k (l0.length : Int) dA _ A5.out).mono ?_); rintro e w8 ⟨v106, rfl, ho0, hb⟩; refine ⟨_, rfl, ?_⟩; have n_ := zA3 (Kd.R_elder' zz28 (Kd.R_base ho0) hb) (Kd.R_lower (Kd.R_new' ho0 (Kd.R_lt zz28)) (below_size zz1)) (below_step zz1 hb); clear bT HB; obtain ⟨bT, dE, HB⟩ := n_; clear ho0 hb; obtain ⟨Ao9, co9, z6⟩ := Kd.R_slice bT.out; subst z6; obtain ⟨Ao10, co10, k9⟩ := Kd.R_slice dE.out; subst k9) | ((with_reducible refine gate_callee (f := 135) rfl ?_); refine goesL_ (some 13) rfl rfl Try.func135 (by kernel_rfl) rfl #[.slice A0 l0.length c0, .slice Ao9 aQ.length co9, .slice Ao10 dA.length co10] rfl zz3 ?_; (with_reducible refine (spec_l03Det.calls k _ _ l0 _ _ aQ _ _ dA f4 _ ?side1 ?side2 ?side3 ?side4 ?side5 ?side6 A6.out).mono ?_); (case side1 => exact zz46); (case side2 => exact HC0.out); (case side3 => repeat (first | exact (Kd.R_reads' bT.out).2.2 | (with_reducible refine Kd.C_alloc ?_ _) | (with_reducible refine Kd.C_drewN ?_ _) | (with_reducible refine Kd.C_drew ?_))); (case side4 => exact (Kd.R_reads' bT.out).2.1); (case side5 => repeat (first | exact (Kd.R_reads' dE.out).2.2 | (with_reducible refine Kd.C_alloc ?_ _) | (with_reducible refine Kd.C_drewN ?_ _) | (with_reducible refine Kd.C_drew ?_))); (case side6 => exact (Kd.R_reads' dE.out).2.1); rintro e w11 ⟨rfl, hb⟩; refine ⟨_, rfl, ?_⟩; have n_ := zA3 (Kd.R_below zz28 hb) (Kd.R_below (by (with_reducible repeat (first | apply Kd.R_alloc | apply Kd.R_drewN | apply Kd.R_drew)); exact dE.out) hb) (below_step zz1 hb); clear bT dE HB; obtain ⟨bT, dE, HB⟩ := n_; clear hb))); go_ret; exact ⟨zz7, zz1⟩
mutual
def spec_Multiplicity.j0 : Nat → Int → Int → Int → Bool → Int → List (S57) → Option (Int)
 | 0, _, _, _, _, _, _ => none
 | k + 1, x1, x2, x7, m8, aJ, aI => if m8 = true then (some 0) else (spec_Multiplicity.l0 k x1 x2 x7 aI (aI.length : Int) 0)
def spec_Multiplicity.l0 : Nat → Int → Int → Int → List (S57) → Int → Int → Option (Int)
 | 0, _, _, _, _, _, _ => none
 | k + 1, x1, x2, x7, mF, rB, nA => if nA < rB then (if 0 ≤ nA then (if nA < (mF.length : Int) then (if ((rd_T57 mF nA).f0) = (mn x1 x2) then (if ((rd_T57 mF nA).f1) = (mx x1 x2) then (spec_Multiplicity.l0 k x1 x2 (wrap64 (x7 + 1)) mF rB (wrap64 (nA + 1))) else (spec_Multiplicity.l0 k x1 x2 x7 mF rB (wrap64 (nA + 1)))) else (spec_Multiplicity.l0 k x1 x2 x7 mF rB (wrap64 (nA + 1)))) else (none)) else (none)) else (some x7)
end
def spec_Multiplicity.f (k : Nat) (aD : Int) (aC : List (S57)) (a1 : Int) (a2 : Int) : Option (Int) := (spec_l02Vert.f aD aC a1).bind fun aQ => (if aQ = true then ((spec_l02Vert.f aD aC a2).bind fun bQ => (if bQ = true then (spec_Multiplicity.j0 k a1 a2 0 (a1 == a2) aD aC) else (spec_Multiplicity.j0 k a1 a2 0 true aD aC))) else (spec_Multiplicity.j0 k a1 a2 0 true aD aC))
theorem spec_Multiplicity.mono_l : ∀ k, (∀ y0 y1 y2 y3 y4 y5, LeO (spec_Multiplicity.j0 k y0 y1 y2 y3 y4 y5) (spec_Multiplicity.j0 (k + 1) y0 y1 y2 y3 y4 y5)) ∧ (∀ y0 y1 y2 y3 y4 y5, LeO (spec_Multiplicity.l0 k y0 y1 y2 y3 y4 y5) (spec_Multiplicity.l0 (k + 1) y0 y1 y2 y3 y4 y5))
 | 0 => ⟨fun _ _ _ _ _ _ r h => by simp [spec_Multiplicity.j0] at h, fun _ _ _ _ _ _ r h => by simp [spec_Multiplicity.l0] at h⟩
 | k + 1 => by
  obtain ⟨ih0, ih1⟩ := spec_Multiplicity.mono_l k
  refine ⟨?_, ?_⟩
  ·intro y0 y1 y2 y3 y4 y5
   unfold spec_Multiplicity.j0
   exact zm1
  ·intro y0 y1 y2 y3 y4 y5
   unfold spec_Multiplicity.l0
   exact zm1
theorem spec_Multiplicity.mono : ∀ a0 a1 a2 a3 k, LeO (spec_Multiplicity.f k a0 a1 a2 a3) (spec_Multiplicity.f (k + 1) a0 a1 a2 a3) := by
 intro a0 a1 a2 a3 k; obtain ⟨ih0, ih1⟩ := spec_Multiplicity.mono_l k; unfold spec_Multiplicity.f; exact zm1
theorem spec_Multiplicity.calls (k : Nat) (aD : Int) (aH : Option Addr) (aG : Nat) (aC : List (S57)) (a1 : Int) (a2 : Int) (r : Int) (w : World) (hr0_1 : Kd.C k57 w aH aC.length aC) (hc0_1 : aC.length ≤ aG) (h : spec_Multiplicity.f k aD aC a1 a2 = some r) :
  Calls Try.prog 104 #[.agg #[.int .i64 aD, .slice aH aC.length aG], .int .i64 a1, .int .i64 a2] w fun e w' => e = .returned (.int .i64 r) ∧ Below w.heap.size w w' := by
 have hu25 := Try.underlying25; have hu57 := Try.underlying57; have bJ := zK_ hr0_1; have bE := zK_ hc0_1; clear hr0_1 hc0_1; have HB := zK_ (Below.refl w.heap.size w); have H : ((spec_l02Vert.f aD aC a1).bind fun aQ => (if aQ = true then ((spec_l02Vert.f aD aC a2).bind fun bQ => (if bQ = true then (spec_Multiplicity.j0 k a1 a2 0 (a1 == a2) aD aC) else (spec_Multiplicity.j0 k a1 a2 0 true aD aC))) else (spec_Multiplicity.j0 k a1 a2 0 true aD aC))) = some r := h; clear h; have HC4 := zK_ H; clear H; go_enter Try.func104, Try.ntmps104; (go_upto_region 2 with (first | ((with_reducible refine gate_dst (N := 3) rfl ?_); (try (refine gate_guard (by rfl) ?_; dsimp only)); refine box_event ?hg (N := 3) ?hd (cs := #[.int .i64 aD, .slice aH aC.length aG]) (t := 25) ?hr ?_; (case hd => rfl); (case hg => rfl); (case hr => exact zz9); intro aE hg w5 hbox hb; have n_ := zA4 (below_step zz1 hb) hbox (zz10 : w.heap.size ≤ aE) (zz10 : w.heap.size ≤ aE); clear HB; obtain ⟨HB, aA, GW101, GE101⟩ := n_; clear hb hbox hg))); (try simp only [Act.put, List.setIfInBounds_toArray, List.set_cons_zero, List.set_cons_succ]); go_cut [24] (fun v24 wc => ∃ (kq : Nat) (nO : Bool), v24 = .bool nO ∧ Aside0 (spec_Multiplicity.j0 kq a1 a2 0 nO aD aC = some r) ∧ Aside0 (kq ≤ k) ∧ Aside0 (wc.heap[aE]? = some (.cells #[.int .i64 aD, (.slice aH aC.length aG)] 25 (0, 0))) ∧ Aside0 (Below w.heap.size w wc))
 case first =>
  have H := HC4.out; clear HC4; obtain ⟨aQ, A60, H⟩ := zO_ H; (try dsimp only at H); have A6 := zK_ A60; clear A60; by_cases c7 : aQ = true; rotate_left
  ·replace c7 := Bool.eq_false_iff.mpr c7; subst c7; rw [if_neg (show ¬ (false = true) by decide)] at H; have H' := zK_ H; clear H; have kS := zC20 aA; have kR := zC21 aA; have kM := blk_frozen aA.out 0; have kL := blk_frozen aA.out 1; (go_wp2_with (first | ((with_reducible refine gate_callee (f := 103) rfl ?_); refine goesL_ (some 12) rfl rfl Try.func103 (by kernel_rfl) rfl #[.agg #[.int .i64 aD, .slice aH aC.length aG], .int .i64 a1] rfl zz3 ?_; (with_reducible refine (spec_l02Vert.calls aD _ _ aC a1 false _ ?side1 ?side2 A6.out).mono ?_); (case side1 => exact zz6); (case side2 => exact bE.out); rintro e w19 ⟨rfl, hb⟩; refine ⟨_, rfl, ?_⟩; have n_ := zA2 (blk_below (g := aE) (o := .cells #[.int .i64 aD, .slice aH aC.length aG] 25 (0, 0)) zz2 hb) (below_step zz0 hb); clear aA HB; obtain ⟨aA, HB⟩ := n_; clear hb))); (go_meet); case rel => exact ⟨_, (true), zz5, H', ⟨by first | omega | exact Nat.le_refl _⟩, ⟨zz2⟩, ⟨zz0⟩⟩
  subst c7; rw [if_pos rfl] at H; obtain ⟨bQ, A80, H⟩ := zO_ H; (try dsimp only at H); have A8 := zK_ A80; clear A80; by_cases c9 : bQ = true
  ·subst c9; rw [if_pos rfl] at H; have H' := zK_ H; clear H; have cH := zC20 aA; have cG := zC21 aA; have cE := blk_frozen aA.out 0; have cC := blk_frozen aA.out 1; (go_wp2_with (first | ((with_reducible refine gate_callee (f := 103) rfl ?_); refine goesL_ (some 12) rfl rfl Try.func103 (by kernel_rfl) rfl #[.agg #[.int .i64 aD, .slice aH aC.length aG], .int .i64 a1] rfl zz3 ?_; (with_reducible refine (spec_l02Vert.calls aD _ _ aC a1 true _ ?side1 ?side2 A6.out).mono ?_); (case side1 => exact zz6); (case side2 => exact bE.out); rintro e w11 ⟨rfl, hb⟩; refine ⟨_, rfl, ?_⟩; have n_ := zA2 (blk_below (g := aE) (o := .cells #[.int .i64 aD, .slice aH aC.length aG] 25 (0, 0)) zz2 hb) (below_step zz0 hb); clear aA HB; obtain ⟨aA, HB⟩ := n_; clear hb; have fT := zC20 aA; have fS := zC21 aA; have fR := blk_frozen aA.out 0; have fQ := blk_frozen aA.out 1) | (go_at_call 103; (with_reducible refine (spec_l02Vert.calls aD _ _ aC a2 true _ ?side1 ?side2 A8.out).mono ?_); (case side1 => exact zz6); (case side2 => exact bE.out); rintro e w13 ⟨rfl, hb⟩; have n_ := zA2 (blk_below (g := aE) (o := .cells #[.int .i64 aD, .slice aH aC.length aG] 25 (0, 0)) zz2 hb) (below_step zz0 hb); clear aA HB; obtain ⟨aA, HB⟩ := n_; (try clear hb); (try clear hb2); (try clear hk); (try clear hi)))); (go_meet); case rel => exact ⟨_, ((a1 == a2)), zz5, H', ⟨by first | omega | exact Nat.le_refl _⟩, ⟨zz2⟩, ⟨zz0⟩⟩
  replace c9 := Bool.eq_false_iff.mpr c9; subst c9; rw [if_neg (show ¬ (false = true) by decide)] at H; have H' := zK_ H; clear H; have d3 := zC20 aA; have d2 := zC21 aA; have dZ := blk_frozen aA.out 0; have dY := blk_frozen aA.out 1; (go_wp2_with (first | ((with_reducible refine gate_callee (f := 103) rfl ?_); refine goesL_ (some 12) rfl rfl Try.func103 (by kernel_rfl) rfl #[.agg #[.int .i64 aD, .slice aH aC.length aG], .int .i64 a1] rfl zz3 ?_; (with_reducible refine (spec_l02Vert.calls aD _ _ aC a1 true _ ?side1 ?side2 A6.out).mono ?_); (case side1 => exact zz6); (case side2 => exact bE.out); rintro e w15 ⟨rfl, hb⟩; refine ⟨_, rfl, ?_⟩; have n_ := zA2 (blk_below (g := aE) (o := .cells #[.int .i64 aD, .slice aH aC.length aG] 25 (0, 0)) zz2 hb) (below_step zz0 hb); clear aA HB; obtain ⟨aA, HB⟩ := n_; clear hb; have gY := zC20 aA; have gX := zC21 aA; have gU := blk_frozen aA.out 0; have gT := blk_frozen aA.out 1) | (go_at_call 103; (with_reducible refine (spec_l02Vert.calls aD _ _ aC a2 false _ ?side1 ?side2 A8.out).mono ?_); (case side1 => exact zz6); (case side2 => exact bE.out); rintro e w17 ⟨rfl, hb⟩; have n_ := zA2 (blk_below (g := aE) (o := .cells #[.int .i64 aD, .slice aH aC.length aG] 25 (0, 0)) zz2 hb) (below_step zz0 hb); clear aA HB; obtain ⟨aA, HB⟩ := n_; (try clear hb); (try clear hb2); (try clear hk); (try clear hi)))); (go_meet); case rel => exact ⟨_, (true), zz5, H', ⟨by first | omega | exact Nat.le_refl _⟩, ⟨zz2⟩, ⟨zz0⟩⟩
 case rest =>
  clear HC4; (try clear c1); (try clear p2); (try clear c7); (try clear c9); (try clear c10); (try clear cH); (try clear cG); (try clear fT); (try clear fS); (try clear d3); (try clear d2); (try clear gY); (try clear gX); (try clear kS); (try clear kR); (try clear cE); (try clear cC); (try clear fR); (try clear fQ); (try clear dZ); (try clear dY); (try clear gU); (try clear gT); (try clear kM); (try clear kL); obtain ⟨kq, nO, rfl, HA, HJ3, aA, HB⟩ := hcut
  cases kq with
  | zero => exact absurd HA.out (by simp [spec_Multiplicity.j0])
  | succ kj3 =>
   have H := HA.out; clear HA; simp only [spec_Multiplicity.j0] at H; by_cases c20 : nO = true
   ·subst c20; rw [if_pos rfl] at H; obtain rfl := Option.some.inj H; go_wp2; go_ret; exact ⟨zz7, zz0⟩
   replace c20 := Bool.eq_false_iff.mpr c20; subst c20; rw [if_neg (show ¬ (false = true) by decide)] at H; have H' := zK_ H; clear H; have oT := zC20 aA; have oS := zC21 aA; have oE := blk_frozen aA.out 0; have oD := blk_frozen aA.out 1; go_wp2; (go_loopg [7, 28] kj3 (fun kq v7 v28 w' => ∃ (gG : Int) (cY : Int), v7 = .int .i64 gG ∧ v28 = .int .i64 cY ∧ Aside0 (spec_Multiplicity.l0 kq a1 a2 gG aC (aC.length : Int) cY = some r) ∧ Aside0 (kq ≤ kj3) ∧ Aside0 (w'.heap[aE]? = some (.cells #[.int .i64 aD, (.slice aH aC.length aG)] 25 (0, 0))) ∧ Aside0 (Below w.heap.size w w'))); case atStart => exact ⟨(0), (0), zz5, zz5, H', ⟨Nat.le_refl _⟩, ⟨zz2⟩, ⟨zz0⟩⟩
   case round =>
    clear H'; (try clear c1); (try clear c2); (try clear p2); (try clear c7); (try clear c9); (try clear c10); (try clear c20); (try clear cH); (try clear cG); (try clear fT); (try clear fS); (try clear d3); (try clear d2); (try clear gY); (try clear gX); (try clear kS); (try clear kR); (try clear oT); (try clear oS); (try clear cE); (try clear cC); (try clear fR); (try clear fQ); (try clear dZ); (try clear dY); (try clear gU); (try clear gT); (try clear kM); (try clear kL); (try clear oE); (try clear oD); (try clear p2); obtain ⟨gG, cY, rfl, rfl, HA, HK2, aA, HB⟩ := hrel
    cases gk with
    | zero => exact absurd HA.out (by simp [spec_Multiplicity.l0])
    | succ k2 =>
     have H := HA.out; clear HA; simp only [spec_Multiplicity.l0] at H; by_cases c22 : cY < (aC.length : Int); rotate_left
     ·rw [if_neg c22] at H; have oY := decide_eq_false c22; clear c22; obtain rfl := Option.some.inj H; go_wp2; go_ret; exact ⟨zz7, zz0⟩
     rw [if_pos c22] at H; have oY := decide_eq_true c22; clear c22; by_cases c23 : 0 ≤ cY; rotate_left
     ·rw [if_neg c23] at H; exact absurd H (by simp)
     rw [if_pos c23] at H; have oX := decide_eq_true c23; clear c23; by_cases c24 : cY < (aC.length : Int); rotate_left
     ·rw [if_neg c24] at H; exact absurd H (by simp)
     rw [if_pos c24] at H; have mV := decide_eq_true c24; clear c24; obtain ⟨nF, pV⟩ : ∃ j_ : Int, (mn a1 a2) = j_ := ⟨_, rfl⟩; (replace H : (if ((rd_T57 aC cY).f0) = (nF) then (if ((rd_T57 aC cY).f1) = (mx a1 a2) then (spec_Multiplicity.l0 k2 a1 a2 (wrap64 (gG + 1)) aC (aC.length : Int) (wrap64 (cY + 1))) else (spec_Multiplicity.l0 k2 a1 a2 gG aC (aC.length : Int) (wrap64 (cY + 1)))) else (spec_Multiplicity.l0 k2 a1 a2 gG aC (aC.length : Int) (wrap64 (cY + 1)))) = some r := by first | (rw [pV] at H; exact H) | (simp only [pV] at H ⊢; exact H)); have yR : (if a2 < a1 then a2 else a1) = nF := pV; by_cases c26 : ((rd_T57 aC cY).f0) = (nF); rotate_left
     ·rw [if_neg c26] at H; have vG : (((rd_T57 aC cY).f0) == (nF)) = false := beq_eq_false_iff_ne.mpr c26; have vF : (((rd_T57 aC cY).f0) != (nF)) = true := bne_iff_ne.mpr c26; have H' := zK_ H; clear H; have p104 : 0 ≤ (cY : Int) := of_decide_eq_true zz4; have q104 : cY < (aC.length : Int) := of_decide_eq_true zz4; obtain ⟨fZ, e104, bS, dX⟩ := at_T57 bJ.out cY p104 q104; cases e104; replace bS := (HB.out.cell (World.block_lt_of_cell? w _ bS)).trans bS; replace dX := (HB.out.cell (World.block_lt_of_cell? w _ dX)).trans dX; replace p104 := eq_true p104; replace q104 := eq_true q104; (go_wp2_with (first | ((with_reducible refine gate_dst (N := 9) rfl ?_); (try (refine gate_guard (by rfl) ?_; dsimp only)); refine box_event ?hg (N := 9) ?hd (cs := #[.int .i64 0, .int .i64 0]) (t := 57) ?hr ?_; (case hd => rfl); (case hg => rfl); (case hr => exact zz9); intro gZ hg w35 hbox hb; have n_ := zA7 (blk_below (g := aE) (o := .cells #[.int .i64 aD, .slice (some fZ) aC.length aG] 25 (0, 0)) zz2 hb) (below_step zz0 hb) hbox (zz13 : w.heap.size ≤ gZ) (zz13 : w.heap.size ≤ gZ) (by rw [hg]; exact Nat.ne_of_lt (blk_lt (g := aE) (o := .cells #[.int .i64 aD, .slice (some fZ) aC.length aG] 25 (0, 0)) zz2) : aE ≠ gZ) (by rw [hg]; exact Nat.ne_of_gt (blk_lt (g := aE) (o := .cells #[.int .i64 aD, .slice (some fZ) aC.length aG] 25 (0, 0)) zz2) : gZ ≠ aE); clear aA HB; obtain ⟨aA, HB, g6, GW105, GE105, fP, iH⟩ := n_; clear hb hbox hg; have CM := iH.out; have BU := fP.out; have xX := zC20 g6; have xW := zC21 g6; have xB := blk_frozen g6.out 0; have xA := blk_frozen g6.out 1))); go_roundg k2; (case measure => have := HJ3.out; have := HK2.out; omega); case rel => exact ⟨(gG), (wrap64 (cY + 1)), zz5, zz5, H', ⟨by have := HJ3.out; have := HK2.out; omega⟩, ⟨zz32⟩, ⟨zz59⟩⟩
     rw [if_pos c26] at H; have vG : (((rd_T57 aC cY).f0) == (nF)) = true := beq_iff_eq.mpr c26; have vF : (((rd_T57 aC cY).f0) != (nF)) = false := bne_eq_false_iff_eq.mpr c26; clear c26; obtain ⟨nE, pU⟩ : ∃ j_ : Int, (mx a1 a2) = j_ := ⟨_, rfl⟩; (replace H : (if ((rd_T57 aC cY).f1) = (nE) then (spec_Multiplicity.l0 k2 a1 a2 (wrap64 (gG + 1)) aC (aC.length : Int) (wrap64 (cY + 1))) else (spec_Multiplicity.l0 k2 a1 a2 gG aC (aC.length : Int) (wrap64 (cY + 1)))) = some r := by first | (rw [pU] at H; exact H) | (simp only [pU] at H ⊢; exact H)); have yQ : (if a1 < a2 then a2 else a1) = nE := pU; by_cases c28 : ((rd_T57 aC cY).f1) = (nE); rotate_left
     ·rw [if_neg c28] at H; have qP : (((rd_T57 aC cY).f1) == (nE)) = false := beq_eq_false_iff_ne.mpr c28; have u4 : (((rd_T57 aC cY).f1) != (nE)) = true := bne_iff_ne.mpr c28; have H' := zK_ H; clear H; have p104 : 0 ≤ (cY : Int) := of_decide_eq_true zz4; have q104 : cY < (aC.length : Int) := of_decide_eq_true zz4; obtain ⟨fZ, e104, bS, dX⟩ := at_T57 bJ.out cY p104 q104; cases e104; replace bS := (HB.out.cell (World.block_lt_of_cell? w _ bS)).trans bS; replace dX := (HB.out.cell (World.block_lt_of_cell? w _ dX)).trans dX; replace p104 := eq_true p104; replace q104 := eq_true q104; (go_wp2_with (first | ((with_reducible refine gate_dst (N := 9) rfl ?_); (try (refine gate_guard (by rfl) ?_; dsimp only)); refine box_event ?hg (N := 9) ?hd (cs := #[.int .i64 0, .int .i64 0]) (t := 57) ?hr ?_; (case hd => rfl); (case hg => rfl); (case hr => exact zz9); intro gZ hg w32 hbox hb; have n_ := zA7 (blk_below (g := aE) (o := .cells #[.int .i64 aD, .slice (some fZ) aC.length aG] 25 (0, 0)) zz2 hb) (below_step zz0 hb) hbox (zz13 : w.heap.size ≤ gZ) (zz13 : w.heap.size ≤ gZ) (by rw [hg]; exact Nat.ne_of_lt (blk_lt (g := aE) (o := .cells #[.int .i64 aD, .slice (some fZ) aC.length aG] 25 (0, 0)) zz2) : aE ≠ gZ) (by rw [hg]; exact Nat.ne_of_gt (blk_lt (g := aE) (o := .cells #[.int .i64 aD, .slice (some fZ) aC.length aG] 25 (0, 0)) zz2) : gZ ≠ aE); clear aA HB; obtain ⟨aA, HB, g6, GW105, GE105, fP, iH⟩ := n_; clear hb hbox hg; have CO := iH.out; have BW := fP.out; have yB := zC20 g6; have yA := zC21 g6; have xF := blk_frozen g6.out 0; have xE := blk_frozen g6.out 1))); go_roundg k2; (case measure => have := HJ3.out; have := HK2.out; omega); case rel => exact ⟨(gG), (wrap64 (cY + 1)), zz5, zz5, H', ⟨by have := HJ3.out; have := HK2.out; omega⟩, ⟨zz32⟩, ⟨zz59⟩⟩
     rw [if_pos c28] at H; have qP : (((rd_T57 aC cY).f1) == (nE)) = true := beq_iff_eq.mpr c28; have u4 : (((rd_T57 aC cY).f1) != (nE)) = false := bne_eq_false_iff_eq.mpr c28; clear c28; have H' := zK_ H; clear H; have p104 : 0 ≤ (cY : Int) := of_decide_eq_true zz4; have q104 : cY < (aC.length : Int) := of_decide_eq_true zz4; obtain ⟨fZ, e104, bS, dX⟩ := at_T57 bJ.out cY p104 q104; cases e104; replace bS := (HB.out.cell (World.block_lt_of_cell? w _ bS)).trans bS; replace dX := (HB.out.cell (World.block_lt_of_cell? w _ dX)).trans dX; replace p104 := eq_true p104; replace q104 := eq_true q104; (go_wp2_with (first | ((with_reducible refine gate_dst (N := 9) rfl ?_); (try (refine gate_guard (by rfl) ?_; dsimp only)); refine box_event ?hg (N := 9) ?hd (cs := #[.int .i64 0, .int .i64 0]) (t := 57) ?hr ?_; (case hd => rfl); (case hg => rfl); (case hr => exact zz9); intro gZ hg w29 hbox hb; have n_ := zA7 (blk_below (g := aE) (o := .cells #[.int .i64 aD, .slice (some fZ) aC.length aG] 25 (0, 0)) zz2 hb) (below_step zz0 hb) hbox (zz13 : w.heap.size ≤ gZ) (zz13 : w.heap.size ≤ gZ) (by rw [hg]; exact Nat.ne_of_lt (blk_lt (g := aE) (o := .cells #[.int .i64 aD, .slice (some fZ) aC.length aG] 25 (0, 0)) zz2) : aE ≠ gZ) (by rw [hg]; exact Nat.ne_of_gt (blk_lt (g := aE) (o := .cells #[.int .i64 aD, .slice (some fZ) aC.length aG] 25 (0, 0)) zz2) : gZ ≠ aE); clear aA HB; obtain ⟨aA, HB, g6, GW105, GE105, fP, iH⟩ := n_; clear hb hbox hg; have CR := iH.out; have BY := fP.out; have oN := zC20 g6; have oM := zC21 g6; have n8 := blk_frozen g6.out 0; have n7 := blk_frozen g6.out 1))); go_roundg k2; (case measure => have := HJ3.out; have := HK2.out; omega); case rel => exact ⟨(wrap64 (gG + 1)), (wrap64 (cY + 1)), zz5, zz5, H', ⟨by have := HJ3.out; have := HK2.out; omega⟩, ⟨zz32⟩, ⟨zz59⟩⟩
end Go.Proofs.Ytnbljcgdgblgoaa.P
end

section
namespace Go.Proofs.Ytnbljcgdgblgoaa.P
open Go.RowKit Go.Proofs.YtnbljcgdgblgoaaW.PrintWords Go.Proofs.YtnbljcgdgblgoaaW.PrintLast Go.Proofs.YtnbljcgdgblgoaaW.PrintMore
attribute [local go_sem] max2_int min2_int max_two min_two max_three min_three max_four min_four
set_option linter.unusedVariables false
set_option linter.unusedSimpArgs false
mutual
def spec_LaplacianOf.l0 : Nat → List (List Int) → Int → Int → List (S57) → Option ((List (List Int)))
 | 0, _, _, _, _ => none
 | k + 1, x3, x4, aJ, aI => if x4 < aJ then (spec_LaplacianOf.l1 k x3 x4 (([] : List Int)) 0 aJ aI) else (some x3)
def spec_LaplacianOf.l1 : Nat → List (List Int) → Int → List Int → Int → Int → List (S57) → Option ((List (List Int)))
 | 0, _, _, _, _, _, _ => none
 | k + 1, x3, x4, x5, x6, aJ, aI => if x6 < aJ then (if x4 = x6 then ((spec_Valence.f k aJ aI x4).bind fun dF => (if x5.length < 17592186044416 then (spec_LaplacianOf.l1 k x3 x4 (x5 ++ [dF]) (wrap64 (x6 + 1)) aJ aI) else (none))) else ((spec_Multiplicity.f k aJ aI x4 x6).bind fun fW => (if x5.length < 17592186044416 then (spec_LaplacianOf.l1 k x3 x4 (x5 ++ [wrap64 (-fW)]) (wrap64 (x6 + 1)) aJ aI) else (none)))) else (if x3.length < 5864062014805 then (spec_LaplacianOf.l0 k (x3 ++ [x5]) (wrap64 (x4 + 1)) aJ aI) else (none))
end
def spec_LaplacianOf.f (k : Nat) (aD : Int) (aC : List (S57)) : Option ((List (List Int))) := (spec_GraphOk.f k aD aC).bind fun aQ => (if aQ = true then (spec_LaplacianOf.l0 k (([] : List (List Int))) 0 aD aC) else (some ([] : List (List Int))))
theorem spec_LaplacianOf.mono_l : ∀ k, (∀ y0 y1 y2 y3, LeO (spec_LaplacianOf.l0 k y0 y1 y2 y3) (spec_LaplacianOf.l0 (k + 1) y0 y1 y2 y3)) ∧ (∀ y0 y1 y2 y3 y4 y5, LeO (spec_LaplacianOf.l1 k y0 y1 y2 y3 y4 y5) (spec_LaplacianOf.l1 (k + 1) y0 y1 y2 y3 y4 y5))
 | 0 => ⟨fun _ _ _ _ r h => by simp [spec_LaplacianOf.l0] at h, fun _ _ _ _ _ _ r h => by simp [spec_LaplacianOf.l1] at h⟩
 | k + 1 => by
  obtain ⟨ih0, ih1⟩ := spec_LaplacianOf.mono_l k
  refine ⟨?_, ?_⟩
  ·intro y0 y1 y2 y3
   unfold spec_LaplacianOf.l0
   exact zm6
  ·intro y0 y1 y2 y3 y4 y5
   unfold spec_LaplacianOf.l1
   exact zm6
theorem spec_LaplacianOf.mono : ∀ a0 a1 k, LeO (spec_LaplacianOf.f k a0 a1) (spec_LaplacianOf.f (k + 1) a0 a1) := by
 intro a0 a1 k; obtain ⟨ih0, ih1⟩ := spec_LaplacianOf.mono_l k; unfold spec_LaplacianOf.f; exact zm6
theorem spec_LaplacianOf.calls (k : Nat) (aD : Int) (aH : Option Addr) (aG : Nat) (aC : List (S57)) (r : List (List Int)) (w : World) (hr0_1 : Kd.C k57 w aH aC.length aC) (hc0_1 : aC.length ≤ aG) (h : spec_LaplacianOf.f k aD aC = some r) :
  Calls Try.prog 137 #[.agg #[.int .i64 aD, .slice aH aC.length aG]] w fun e w' => ∃ v0_ : Value, e = .returned (v0_) ∧ Kd.S (Kd.slice 3 (Kd.int .i64)) 26 w' w.heap.size (fun _ => True) v0_ r ∧ Below w.heap.size w w' := by
 have hu25 := Try.underlying25; have bJ := zK_ hr0_1; have bE := zK_ hc0_1; clear hr0_1 hc0_1; have HB := zK_ (Below.refl w.heap.size w); have H : ((spec_GraphOk.f k aD aC).bind fun aQ => (if aQ = true then (spec_LaplacianOf.l0 k (([] : List (List Int))) 0 aD aC) else (some ([] : List (List Int))))) = some r := h; clear h; obtain ⟨aQ, A20, H⟩ := zO_ H; (try dsimp only at H); have A2 := zK_ A20; clear A20; by_cases c3 : aQ = true; rotate_left
 ·replace c3 := Bool.eq_false_iff.mpr c3; subst c3; rw [if_neg (show ¬ (false = true) by decide)] at H; obtain rfl := Option.some.inj H; go_enter Try.func137, Try.ntmps137; (go_wp2_with (first | ((with_reducible refine gate_dst (N := 1) rfl ?_); refine box_event ?hg (N := 1) ?hd (cs := #[.int .i64 aD, .slice aH aC.length aG]) (t := 25) ?hr ?_; (case hd => rfl); (case hg => rfl); (case hr => exact zz9); intro aE hg w30 hbox hb; have n_ := zA4 (below_step zz1 hb) hbox (zz10 : w.heap.size ≤ aE) (zz10 : w.heap.size ≤ aE); clear HB; obtain ⟨HB, aA, GW101, GE101⟩ := n_; clear hb hbox hg; have oN := zC20 aA; have oM := zC21 aA; have n8 := blk_frozen aA.out 0; have n7 := blk_frozen aA.out 1) | ((with_reducible refine gate_callee (f := 55) rfl ?_); refine goesL_ (some 8) rfl rfl Try.func55 (by kernel_rfl) rfl #[.agg #[.int .i64 aD, .slice aH aC.length aG]] rfl zz3 ?_; (with_reducible refine (spec_GraphOk.calls k aD _ _ aC false _ ?side1 ?side2 A2.out).mono ?_); (case side1 => exact zz6); (case side2 => exact bE.out); rintro e w32 ⟨rfl, hb⟩; refine ⟨_, rfl, ?_⟩; have n_ := zA2 (blk_below (g := aE) (o := .cells #[.int .i64 aD, .slice aH aC.length aG] 25 (0, 0)) zz2 hb) (below_step zz0 hb); clear aA HB; obtain ⟨aA, HB⟩ := n_; clear hb))); go_ret; exact ⟨_, zz7, by first | exact Kd.S_nil _ _ _ _ _ | exact Kd.N_nil _ _ _ _ _ | exact Kd.V_nil _ _ _ _ _ | exact Kd.Q_nil _ _ _ _ _ | exact Kd.R_nil _ _ _ _ _, zz0⟩
 subst c3; rw [if_pos rfl] at H; obtain ⟨fM, hy_⟩ : ∃ y_ : List (List Int), y_ = (([] : List (List Int))) := ⟨_, rfl⟩; (replace H : (spec_LaplacianOf.l0 k fM 0 aD aC) = some r := zzY); have kD := zK_ hy_; clear hy_; have H' := zK_ H; clear H; go_enter Try.func137, Try.ntmps137; (go_wp2_with (first | ((with_reducible refine gate_dst (N := 1) rfl ?_); refine box_event ?hg (N := 1) ?hd (cs := #[.int .i64 aD, .slice aH aC.length aG]) (t := 25) ?hr ?_; (case hd => rfl); (case hg => rfl); (case hr => exact zz9); intro aE hg w4 hbox hb; have n_ := zA4 (below_step zz1 hb) hbox (zz10 : w.heap.size ≤ aE) (zz10 : w.heap.size ≤ aE); clear HB; obtain ⟨HB, aA, GW101, GE101⟩ := n_; clear hb hbox hg; have hU := zC20 aA; have g9 := zC21 aA; have g8 := blk_frozen aA.out 0; have g7 := blk_frozen aA.out 1) | ((with_reducible refine gate_callee (f := 55) rfl ?_); refine goesL_ (some 8) rfl rfl Try.func55 (by kernel_rfl) rfl #[.agg #[.int .i64 aD, .slice aH aC.length aG]] rfl zz3 ?_; (with_reducible refine (spec_GraphOk.calls k aD _ _ aC true _ ?side1 ?side2 A2.out).mono ?_); (case side1 => exact zz6); (case side2 => exact bE.out); rintro e w6 ⟨rfl, hb⟩; refine ⟨_, rfl, ?_⟩; have n_ := zA2 (blk_below (g := aE) (o := .cells #[.int .i64 aD, .slice aH aC.length aG] 25 (0, 0)) zz2 hb) (below_step zz0 hb); clear aA HB; obtain ⟨aA, HB⟩ := n_; clear hb) | ((with_reducible refine gate_dst (N := 10) rfl ?_); refine Kd.S_lit (Kd.slice 3 (Kd.int .i64)) _ 26 ?hg (N := 10) ?hd (xs := ([] : List (List Int))) (inner := []) (ok := fun _ => True) (okp := fun _ => True) ?hr ?hp (fun _ hk => hk) trivial (Below.refl _ _) (Nat.le_refl _) (by simp) ?_; (case hd => rfl); (case hg => rfl); (case hr => exact zz9); (case hp => exact (Reps.none _ _)); intro v104 w7 ho8 hb hg_ hnew_; clear hg_ hnew_; (first | rw [← kD.out] at ho8 | (simp only [Int.reduceToNat] at ho8; rw [← kD.out] at ho8)); have n_ := zA3 (Kd.S_lower ho8 (below_size zz0)) (blk_below (g := aE) (o := .cells #[.int .i64 aD, .slice aH aC.length aG] 25 (0, 0)) zz2 hb) (below_step zz0 hb); clear aA HB; obtain ⟨eW, aA, HB⟩ := n_; clear hb ho8))); (go_loopg [3, 4] k (fun kq v3 v4 w' => ∃ (bP : List (List Int)) (aX : Int), v4 = .int .i64 aX ∧ Aside0 (spec_LaplacianOf.l0 kq bP aX aD aC = some r) ∧ Aside0 (kq ≤ k) ∧ Aside0 (Kd.S (Kd.slice 3 (Kd.int .i64)) 26 w' w.heap.size (fun _ => True) v3 bP) ∧ Aside0 (w'.heap[aE]? = some (.cells #[.int .i64 aD, (.slice aH aC.length aG)] 25 (0, 0))) ∧ Aside0 (Below w.heap.size w w'))); case atStart => exact ⟨(fM), (0), zz5, H', ⟨Nat.le_refl _⟩, ⟨by (with_reducible repeat (first | apply Kd.S_alloc | apply Kd.S_drewN | apply Kd.S_drew)); exact eW.out⟩, ⟨zz2⟩, ⟨zz0⟩⟩
 case round =>
  clear H'; (try clear c1); (try clear p2); (try clear c3); (try clear c5); (try clear hU); (try clear g9); (try clear g8); (try clear g7); obtain ⟨bP, aX, rfl, HA, HK1, bC, aA, HB⟩ := hrel
  cases gk with
  | zero => exact absurd HA.out (by simp [spec_LaplacianOf.l0])
  | succ k1 =>
   have H := HA.out; clear HA; simp only [spec_LaplacianOf.l0] at H; by_cases c9 : aX < aD; rotate_left
   ·rw [if_neg c9] at H; have fN := decide_eq_false c9; clear c9; obtain rfl := Option.some.inj H; have oP := zC20 aA; have oO := zC21 aA; have oA := blk_frozen aA.out 0; have n9 := blk_frozen aA.out 1; go_wp2; go_ret; exact ⟨_, zz7, by (with_reducible repeat (first | apply Kd.S_alloc | apply Kd.S_drewN | apply Kd.S_drew)); exact bC.out, zz0⟩
   rw [if_pos c9] at H; have fN := decide_eq_true c9; clear c9; obtain ⟨mE, hy_⟩ : ∃ y_ : List Int, y_ = (([] : List Int)) := ⟨_, rfl⟩; (replace H : (spec_LaplacianOf.l1 k1 bP aX mE 0 aD aC) = some r := zzY); have lG := zK_ hy_; clear hy_; have H' := zK_ H; clear H; have cH := zC20 aA; have cG := zC21 aA; have cE := blk_frozen aA.out 0; have cC := blk_frozen aA.out 1; (go_wp2_with (first | ((with_reducible refine gate_dst (N := 17) rfl ?_); refine Kd.R_lit (Kd.int .i64) _ 3 ?hg (N := 17) ?hd (xs := ([] : List Int)) (inner := []) (ok := fun _ => True) (okp := fun _ => True) ?hr ?hp (fun _ hk => hk) trivial (Below.refl _ _) (Nat.le_refl _) (by simp) ?_; (case hd => rfl); (case hg => rfl); (case hr => exact zz9); (case hp => exact (Reps.none _ _)); intro v107 w11 ho12 hb hg_ hnew_; clear hg_ hnew_; (first | rw [← lG.out] at ho12 | (simp only [Int.reduceToNat] at ho12; rw [← lG.out] at ho12)); have n_ := zA4 (Kd.S_elder' zz45 (Kd.R_base ho12) hb) (Kd.R_lower ho12 (below_size zz0)) (blk_below (g := aE) (o := .cells #[.int .i64 aD, .slice aH aC.length aG] 25 (0, 0)) zz2 hb) (below_step zz0 hb); clear bC aA HB; obtain ⟨bC, rA, aA, HB⟩ := n_; clear hb ho12))); (go_loopg [5, 6] k1 (fun kq v5 v6 w' => ∃ (bY : List Int) (eZ : Int), v6 = .int .i64 eZ ∧ Aside0 (spec_LaplacianOf.l1 kq bP aX bY eZ aD aC = some r) ∧ Aside0 (kq ≤ k1) ∧ Aside0 (Kd.S (Kd.slice 3 (Kd.int .i64)) 26 w' w.heap.size (fun k_ => some k_ ≠ (v5 : Value).ownBlock) u3 bP) ∧ Aside0 (Kd.R (Kd.int .i64) 3 w' w.heap.size (fun _ => True) v5 bY) ∧ Aside0 (w'.heap[aE]? = some (.cells #[.int .i64 aD, (.slice aH aC.length aG)] 25 (0, 0))) ∧ Aside0 (Below w.heap.size w w'))); case atStart => exact ⟨(mE), (0), zz5, H', ⟨Nat.le_refl _⟩, ⟨zz57⟩, ⟨by (with_reducible repeat (first | apply Kd.R_alloc | apply Kd.R_drewN | apply Kd.R_drew)); exact rA.out⟩, ⟨zz2⟩, ⟨zz0⟩⟩
   case round =>
    clear H'; (try clear c1); (try clear p2); (try clear c3); (try clear c5); (try clear c9); (try clear fN); (try clear cH); (try clear cG); (try clear hU); (try clear g9); (try clear cE); (try clear cC); (try clear g8); (try clear g7); (try clear p2); obtain ⟨bY, eZ, rfl, HA, HK2, bC, bV, aA, HB⟩ := hrel
    cases gk with
    | zero => exact absurd HA.out (by simp [spec_LaplacianOf.l1])
    | succ k2 =>
     have H := HA.out; clear HA; simp only [spec_LaplacianOf.l1] at H; by_cases c13 : eZ < aD; rotate_left
     ·rw [if_neg c13] at H; have jE := decide_eq_false c13; clear c13; by_cases c25 : bP.length < 5864062014805; rotate_left
      ·rw [if_neg c25] at H; exact absurd H (by simp)
      rw [if_pos c25] at H; have qZ := zK_ c25; clear c25; obtain ⟨bW, hy_⟩ : ∃ y_ : List (List Int), y_ = (bP ++ [bY]) := ⟨_, rfl⟩; (replace H : (spec_LaplacianOf.l0 k2 bW (wrap64 (aX + 1)) aD aC) = some r := zzY); have f2 := zK_ hy_; clear hy_; have H' := zK_ H; clear H; have jT := zC20 aA; have jS := zC21 aA; have jN := blk_frozen aA.out 0; have jM := blk_frozen aA.out 1; obtain ⟨Ao28, co28, pC⟩ := Kd.R_slice bV.out; subst pC; (go_wp2_with (first | ((with_reducible refine gate_builtin (b := .append) (xs := #[.tmp 41, .tmp 43]) rfl ?_); at_builtin; refine Kd.S_append (Kd.slice 3 (Kd.int .i64)) (w0 := w) w.heap.size rfl (.tmp 41) (.tmp 43) 34 26 (.slice none 0 0) 24 rfl Try.underlying34 info26 rfl (by decide) (by omega) u3 bP bY [.slice Ao28 bY.length co28] (fun _ => True) (fun k_ => some k_ = (.slice Ao28 bY.length co28 : Value).ownBlock) rfl rfl ?aP (fun k_ hk_ => ((Kd.R_mono (ok' := fun k_ => ((fun _ => True)) k_ ∧ some k_ ≠ (u3 : Value).ownBlock) (Kd.R_apart' (bV.out) (Kd.S_typed bC.out) (by decide)) (fun k_ hk => ⟨trivial, hk.2⟩))).1 k_ hk_.symm) ?aF ?aO ?aB ?aS ?aL ?_; (case aP => exact Kd.M_row (Kd.R_mono (Kd.R_tight rfl (Kd.R_mono (ok' := fun k_ => ((fun _ => True)) k_ ∧ some k_ ≠ (u3 : Value).ownBlock) (Kd.R_apart' (bV.out) (Kd.S_typed bC.out) (by decide)) (fun k_ hk => ⟨trivial, hk.2⟩))) (fun _ h_ => h_))); (case aB => exact zz0); (case aF => exact (fun _ _ => trivial)); (case aO => exact (by (with_reducible repeat (first | apply Kd.S_alloc | apply Kd.S_drewN | apply Kd.S_drew)); exact Kd.S_mono bC.out (fun k_ hk => ⟨trivial, fun e_ => hk e_⟩))); (case aS => exact (below_size zz0)); (case aL => have := qZ.out; omega); intro v110 w27 ho hb hg hat; rw [← f2.out] at ho; have n_ := zA3 (blk_grown (g := aE) (o := .cells #[.int .i64 aD, .slice aH aC.length aG] 25 (0, 0)) zz2 hg (Kd.S_ne bC.out aA.out (by decide))) hb ho; clear aA HB bC bV; obtain ⟨aA, HB, bU⟩ := n_; clear ho hb hg hat))); go_roundg k2; (case measure => have := HK1.out; have := HK2.out; omega); case rel => exact ⟨(bW), (wrap64 (aX + 1)), zz5, H', ⟨zz53⟩, ⟨by (with_reducible repeat (first | apply Kd.S_alloc | apply Kd.S_drewN | apply Kd.S_drew)); exact bU.out⟩, ⟨zz2⟩, ⟨zz0⟩⟩
     rw [if_pos c13] at H; have jE := decide_eq_true c13; clear c13; by_cases c14 : aX = eZ; rotate_left
     ·rw [if_neg c14] at H; have f9 : (aX == eZ) = false := beq_eq_false_iff_ne.mpr c14; have qR : (aX != eZ) = true := bne_iff_ne.mpr c14; obtain ⟨fW, A200, H⟩ := zO_ H; (try dsimp only at H); have A20 := zK_ A200; clear A200; by_cases c21 : bY.length < 17592186044416; rotate_left
      ·rw [if_neg c21] at H; exact absurd H (by simp)
      rw [if_pos c21] at H; have vT := zK_ c21; clear c21; obtain ⟨tT, hy_⟩ : ∃ y_ : List Int, y_ = (bY ++ [wrap64 (-fW)]) := ⟨_, rfl⟩; (replace H : (spec_LaplacianOf.l1 k2 bP aX tT (wrap64 (eZ + 1)) aD aC) = some r := zzY); have vO := zK_ hy_; clear hy_; have H' := zK_ H; clear H; have l7 := zC20 aA; have l6 := zC21 aA; have lY := blk_frozen aA.out 0; have lX := blk_frozen aA.out 1; (go_wp2_with (first | ((with_reducible refine gate_callee (f := 104) rfl ?_); refine goesL_ (some 37) rfl rfl Try.func104 (by kernel_rfl) rfl #[.agg #[.int .i64 aD, .slice aH aC.length aG], .int .i64 aX, .int .i64 eZ] rfl zz3 ?_; (with_reducible refine (spec_Multiplicity.calls k2 aD _ _ aC aX eZ fW _ ?side1 ?side2 A20.out).mono ?_); (case side1 => exact zz6); (case side2 => exact bE.out); rintro e w23 ⟨rfl, hb⟩; refine ⟨_, rfl, ?_⟩; have n_ := zA4 (Kd.S_below zz45 hb) (Kd.R_below zz22 hb) (blk_below (g := aE) (o := .cells #[.int .i64 aD, .slice aH aC.length aG] 25 (0, 0)) zz2 hb) (below_step zz0 hb); clear bC bV aA HB; obtain ⟨bC, bV, aA, HB⟩ := n_; clear hb) | ((with_reducible refine gate_builtin (b := .append) (xs := #[.tmp 33, .tmp 39]) rfl ?_); at_builtin; refine Kd.R_append (Kd.int .i64) (w0 := w) w.heap.size rfl (.tmp 33) (.tmp 39) 26 3 (.int .i64 0) 8 rfl Try.underlying26 info3 rfl (by decide) (by omega) u5 bY (wrap64 (-fW)) [.int .i64 (wrap64 (-fW))] (fun _ => True) (fun _ => False) rfl rfl ?aP (fun _ hk => hk.elim) ?aF ?aO ?aB ?aS ?aL ?_; (case aP => exact rfl); (case aB => exact zz0); (case aF => exact (fun _ _ => trivial)); (case aO => exact zz22); (case aS => exact (below_size zz0)); (case aL => have := vT.out; omega); intro v118 w24 ho hb hg hat; rw [← vO.out] at ho; have n_ := zA4 (Kd.S_after (ok := (fun _ => True)) zz54 hg hat) (blk_grown (g := aE) (o := .cells #[.int .i64 aD, .slice aH aC.length aG] 25 (0, 0)) zz2 hg (Kd.R_ne bV.out aA.out (by decide))) hb ho; clear bC aA HB bV; obtain ⟨bC, aA, HB, wF⟩ := n_; clear ho hb hg hat))); go_roundg k2; (case measure => have := HK1.out; have := HK2.out; omega); case rel => exact ⟨(tT), (wrap64 (eZ + 1)), zz5, H', ⟨zz53⟩, ⟨zz57⟩, ⟨by (with_reducible repeat (first | apply Kd.R_alloc | apply Kd.R_drewN | apply Kd.R_drew)); exact wF.out⟩, ⟨zz2⟩, ⟨zz0⟩⟩
     rw [if_pos c14] at H; have f9 : (aX == eZ) = true := beq_iff_eq.mpr c14; have qR : (aX != eZ) = false := bne_eq_false_iff_eq.mpr c14; clear c14; obtain ⟨dF, A150, H⟩ := zO_ H; (try dsimp only at H); have A15 := zK_ A150; clear A150; by_cases c16 : bY.length < 17592186044416; rotate_left
     ·rw [if_neg c16] at H; exact absurd H (by simp)
     rw [if_pos c16] at H; have q3 := zK_ c16; clear c16; obtain ⟨o6, hy_⟩ : ∃ y_ : List Int, y_ = (bY ++ [dF]) := ⟨_, rfl⟩; (replace H : (spec_LaplacianOf.l1 k2 bP aX o6 (wrap64 (eZ + 1)) aD aC) = some r := zzY); have qU := zK_ hy_; clear hy_; have H' := zK_ H; clear H; have kU := zC20 aA; have kT := zC21 aA; have kO := blk_frozen aA.out 0; have kN := blk_frozen aA.out 1; (go_wp2_with (first | ((with_reducible refine gate_callee (f := 73) rfl ?_); refine goesL_ (some 30) rfl rfl Try.func73 (by kernel_rfl) rfl #[.agg #[.int .i64 aD, .slice aH aC.length aG], .int .i64 aX] rfl zz3 ?_; (with_reducible refine (spec_Valence.calls k2 aD _ _ aC aX dF _ ?side1 ?side2 A15.out).mono ?_); (case side1 => exact zz6); (case side2 => exact bE.out); rintro e w18 ⟨rfl, hb⟩; refine ⟨_, rfl, ?_⟩; have n_ := zA4 (Kd.S_below zz45 hb) (Kd.R_below zz22 hb) (blk_below (g := aE) (o := .cells #[.int .i64 aD, .slice aH aC.length aG] 25 (0, 0)) zz2 hb) (below_step zz0 hb); clear bC bV aA HB; obtain ⟨bC, bV, aA, HB⟩ := n_; clear hb) | ((with_reducible refine gate_builtin (b := .append) (xs := #[.tmp 27, .tmp 31]) rfl ?_); at_builtin; refine Kd.R_append (Kd.int .i64) (w0 := w) w.heap.size rfl (.tmp 27) (.tmp 31) 26 3 (.int .i64 0) 8 rfl Try.underlying26 info3 rfl (by decide) (by omega) u5 bY dF [.int .i64 dF] (fun _ => True) (fun _ => False) rfl rfl ?aP (fun _ hk => hk.elim) ?aF ?aO ?aB ?aS ?aL ?_; (case aP => exact rfl); (case aB => exact zz0); (case aF => exact (fun _ _ => trivial)); (case aO => exact zz22); (case aS => exact (below_size zz0)); (case aL => have := q3.out; omega); intro v114 w19 ho hb hg hat; rw [← qU.out] at ho; have n_ := zA4 (Kd.S_after (ok := (fun _ => True)) zz54 hg hat) (blk_grown (g := aE) (o := .cells #[.int .i64 aD, .slice aH aC.length aG] 25 (0, 0)) zz2 hg (Kd.R_ne bV.out aA.out (by decide))) hb ho; clear bC aA HB bV; obtain ⟨bC, aA, HB, kF⟩ := n_; clear ho hb hg hat))); go_roundg k2; (case measure => have := HK1.out; have := HK2.out; omega); case rel => exact ⟨(o6), (wrap64 (eZ + 1)), zz5, H', ⟨zz53⟩, ⟨zz57⟩, ⟨by (with_reducible repeat (first | apply Kd.R_alloc | apply Kd.R_drewN | apply Kd.R_drew)); exact kF.out⟩, ⟨zz2⟩, ⟨zz0⟩⟩
end Go.Proofs.Ytnbljcgdgblgoaa.P
end

section
namespace Go.Proofs.Ytnbljcgdgblgoaa.Cf
set_option linter.unusedVariables false
set_option linter.unusedSimpArgs false
open Go.RowKit Go.Proofs.YtnbljcgdgblgoaaW.PrintWords Go.Proofs.YtnbljcgdgblgoaaW.PrintLast Go.Proofs.YtnbljcgdgblgoaaW.PrintMore
structure RowsO (e1 e : Nat) (w : World) (base : Nat) (okj : Nat → Nat → Prop) (v : Value) (rs : List Value) (L : List (List Int)) : Prop where
 len : rs.length = L.length
 own : w.ownsRow base e1 1 v L.length rs
 row : ∀ j x u, L[j]? = some x → rs[j]? = some u → Kd.R (Kd.int .i64) e w base (okj j) u x
 apart : ∀ i j k, okj i k → okj j k → i = j
 off : ∀ j k, okj j k → some k ≠ v.ownBlock
theorem rows_open {e1 e : Nat} {w : World} {base : Nat} {ok : Nat → Prop} {v : Value} {L : List (List Int)} (h : Kd.S (Kd.slice e (Kd.int .i64)) e1 w base ok v L) :
  ∃ okj rs, RowsO e1 e w base okj v rs L ∧ (∀ k, v.ownBlock = some k → ok k) ∧ ∀ j k, okj j k → ok k := by
 obtain ⟨f, h0, inner, ho, hr⟩ := h
 rw [List.length_zipIdx] at ho
 have hl : inner.length = L.length := by have := ho.1; simpa [Kd.tag, Kd.slice] using this
 refine ⟨fun j k => (ok k ∧ some k ≠ v.ownBlock) ∧ f k = j, inner, ⟨hl, ho, fun j x u hx hu => ?_, fun i j k hi hj => hi.2.symm.trans hj.2, fun j k hk => hk.1.2⟩, h0, fun j k hk => hk.1.1⟩
 have h1 := hr.2 j (x, j) (by rw [List.getElem?_zipIdx, hx]; simp)
 obtain ⟨v', hv', hR⟩ := h1
 have hs : (Kd.tag f (Kd.slice e (Kd.int .i64))).sz = 1 := rfl
 rw [hs, Nat.mul_one] at hv'
 have : inner[j]? = some v' := by
  have := congrArg (fun l => l[0]?) hv'
  simpa [List.getElem?_take, List.getElem?_drop] using this
 rw [hu] at this
 obtain rfl := Option.some.inj this
 exact hR
def keepF (q : Nat) (L : List (List Int)) : Nat → List (List Int)
 | 0 => []
 | i + 1 => if i = q then keepF q L i else keepF q L i ++ [(L.getD i []).eraseIdx q]
theorem keepF_len (q : Nat) (L : List (List Int)) : ∀ i, (keepF q L i).length ≤ i
 | 0 => Nat.le_refl _
 | i + 1 => by
  have := keepF_len q L i
  unfold keepF
  split
  ·omega
  ·simp; omega
def redF (q : Int) (L : List (List Int)) : Option (List (List Int)) := if 0 ≤ q ∧ q ≤ 1000000 ∧ L.length ≤ 1000000 ∧ ∀ r ∈ L, q < (r.length : Int) then some (keepF q.toNat L L.length) else none
end Go.Proofs.Ytnbljcgdgblgoaa.Cf
end

section
namespace Go.Proofs.Ytnbljcgdgblgoaa.P
open Go.RowKit Go.Proofs.YtnbljcgdgblgoaaW.PrintWords Go.Proofs.YtnbljcgdgblgoaaW.PrintLast Go.Proofs.YtnbljcgdgblgoaaW.PrintMore
attribute [local go_sem] max2_int min2_int max_two min_two max_three min_three max_four min_four
set_option linter.unusedVariables false
set_option linter.unusedSimpArgs false
def spec_ReducedLaplacian.f (k : Nat) (aD : Int) (aC : List S57) (a1 : Int) : Option (List (List Int)) := (spec_GraphOk.f k aD aC).bind fun t => if t = true then (spec_l01In.f a1 0 (wrap64 (aD - 1))).bind fun u => if u = true then (spec_LaplacianOf.f k aD aC).bind fun L => if ∀ r ∈ L, r.length ≤ 1000000 then Cf.redF a1 L else none else some [] else some []
theorem spec_ReducedLaplacian.mono : ∀ a0 a1 a2 k, LeO (spec_ReducedLaplacian.f k a0 a1 a2) (spec_ReducedLaplacian.f (k + 1) a0 a1 a2) := by
 intro a0 a1 a2 k; unfold spec_ReducedLaplacian.f; exact LeO.bind (spec_GraphOk.mono _ _ k) fun t => LeO.ite (LeO.bind (LeO.refl _) fun u => LeO.ite (LeO.bind (spec_LaplacianOf.mono _ _ k) fun _ => LeO.refl _) (LeO.refl _)) (LeO.refl _)
def spec_ReducedLaplacian.T8 : Bool × List (List Nat × List Nat) := (true, [([], []), ([], []), ([], []), ([], []), ([2, 3], [2, 3]), ([1, 4], [1, 4]), ([], []), ([], []), ([7], [7]), ([6, 8], [6, 8]), ([5, 9, 5], [5, 9]), ([10], [10]), ([0, 11, 10], [0, 11]), ([12, 12, 0, 1, 2, 3, 4, 5, 6, 7, 8, 9, 10, 11, 12], [0, 12])])
def spec_ReducedLaplacian.B8 : List Nat := [0, 0, 0, 0, 12, 30, 0, 0, 128, 448, 1022, 2046, 4095, 8191]
theorem spec_ReducedLaplacian.tab8 : rtab .any (opsOf Try.f107 8) = spec_ReducedLaplacian.T8 := by kernel_rfl
theorem spec_ReducedLaplacian.bits8 : waitsOk spec_ReducedLaplacian.T8.2 spec_ReducedLaplacian.B8 = true := by kernel_rfl
theorem spec_ReducedLaplacian.calls (k : Nat) (aD : Int) (aH : Option Addr) (aG : Nat) (aC : List S57) (a1 : Int) (r : List (List Int)) (w : World) (hr0_1 : Kd.C k57 w aH aC.length aC) (hc0_1 : aC.length ≤ aG) (h : spec_ReducedLaplacian.f k aD aC a1 = some r) :
  Calls Try.prog 107 #[.agg #[.int .i64 aD, .slice aH aC.length aG], .int .i64 a1] w fun e w' => ∃ v0_ : Value, e = .returned (v0_) ∧ Kd.S (Kd.slice 3 (Kd.int .i64)) 26 w' w.heap.size (fun _ => True) v0_ r ∧ Below w.heap.size w w' := by
 have hu30 := Try.underlying25; have HR := zK_ hr0_1; have HC := zK_ hc0_1; clear hr0_1 hc0_1; have H : ((spec_GraphOk.f k aD aC).bind fun t => if t = true then (spec_l01In.f a1 0 (wrap64 (aD - 1))).bind fun u => if u = true then (spec_LaplacianOf.f k aD aC).bind fun L => if ∀ r ∈ L, r.length ≤ 1000000 then Cf.redF a1 L else none else some [] else some []) = some r := h; clear h; obtain ⟨t, hv, H⟩ := zO_ H; have HV := zK_ hv; clear hv; have HB := zK_ (below_alloc (Below.refl w.heap.size w) (.cells #[.int .i64 aD, .slice aH aC.length aG] 25)); have BK := zK_ (heap_alloc_new w (.cells #[.int .i64 aD, .slice aH aC.length aG] 25))
 cases t with
 | false =>
  obtain rfl := Option.some.inj H; clear H; go_enter Try.func107, Try.ntmps107; (go_wp2_with fail); refine (spec_GraphOk.calls k _ _ _ aC false _ (Kd.C_below HR.out HB.out) HC.out HV.out).mono ?_; rintro e w1 ⟨rfl, hb⟩; have HB1 := zK_ (below_step HB.out hb); clear hb; go_wp2; go_ret; exact ⟨_, rfl, Kd.S_nil _ _ _ _ _, HB1.out⟩
 | true =>
  rw [if_pos rfl] at H; obtain ⟨u, hu, H⟩ := zO_ H; have HU := zK_ hu; clear hu
  cases u with
  | false =>
   obtain rfl := Option.some.inj H; clear H; go_enter Try.func107, Try.ntmps107; (go_wp2_with fail); refine (spec_GraphOk.calls k _ _ _ aC true _ (Kd.C_below HR.out HB.out) HC.out HV.out).mono ?_; rintro e w1 ⟨rfl, hb⟩; have HB1 := zK_ (below_step HB.out hb); have pE := zK_ (blk_below BK.out hb); clear hb; have hz0 : w1.cell? ⟨w.heap.size, 0, none⟩ = some (.int .i64 aD) := (blk_cell pE.out 0).trans rfl; have hz1 : w1.cell? ⟨w.heap.size, 1, none⟩ = some (.slice aH aC.length aG) := (blk_cell pE.out 1).trans rfl; (go_wp2_with fail); refine (spec_l01In.calls _ _ _ false _ HU.out).mono ?_; rintro e w1a ⟨rfl, hd⟩; have HB1a := zK_ (below_step HB1.out hd.below); clear hd; go_wp2; go_ret; exact ⟨_, rfl, Kd.S_nil _ _ _ _ _, HB1a.out⟩
  | true =>
   rw [if_pos rfl] at H; obtain ⟨L, hL, H⟩ := zO_ H; have HL := zK_ hL; clear hL; (split at H); (case isFalse => cases H); rename_i hlen; have HLEN := zK_ hlen; clear hlen; unfold Cf.redF at H; split at H
   ·rename_i hq; obtain rfl := Option.some.inj H; clear H; obtain ⟨hq0, hq1, hq2, hq3⟩ := hq; obtain ⟨q, rfl⟩ := Int.eq_ofNat_of_zero_le hq0; rw [Int.toNat_natCast]; have HQ := zK_ (show q ≤ 1000000 ∧ L.length ≤ 1000000 ∧ ∀ r ∈ L, q < r.length from ⟨by omega, hq2, fun r hr => by have := hq3 r hr; omega⟩); clear hq0 hq1 hq2 hq3; go_enter Try.func107, Try.ntmps107; (go_wp2_with fail); refine (spec_GraphOk.calls k _ _ _ aC true _ (Kd.C_below HR.out HB.out) HC.out HV.out).mono ?_; rintro e w1 ⟨rfl, hb⟩; have HB1 := zK_ (below_step HB.out hb); have pE := zK_ (blk_below BK.out hb); clear hb; have hz0 : w1.cell? ⟨w.heap.size, 0, none⟩ = some (.int .i64 aD) := (blk_cell pE.out 0).trans rfl; have hz1 : w1.cell? ⟨w.heap.size, 1, none⟩ = some (.slice aH aC.length aG) := (blk_cell pE.out 1).trans rfl; (go_wp2_with fail); refine (spec_l01In.calls _ _ _ true _ HU.out).mono ?_; rintro e w1a ⟨rfl, hd⟩; have HB1a := zK_ (below_step HB1.out hd.below); have BK1a := zK_ (blk_below pE.out hd.below); clear hd hz0 hz1; have hz0 : w1a.cell? ⟨w.heap.size, 0, none⟩ = some (.int .i64 aD) := (blk_cell BK1a.out 0).trans rfl; have hz1 : w1a.cell? ⟨w.heap.size, 1, none⟩ = some (.slice aH aC.length aG) := (blk_cell BK1a.out 1).trans rfl; (go_wp2_with (first | ((with_reducible refine gate_dst (N := 19) rfl ?_); refine Kd.S_lit (w0 := w) (Kd.slice 3 (Kd.int .i64)) w.heap.size 26 ?hg (N := 19) ?hd (xs := ([] : List (List Int))) (inner := []) (ok := fun _ => True) (okp := fun _ => True) ?hr ?hp (fun _ hk => hk) trivial HB1a.out (below_size HB1a.out) (by simp) ?_; (case hd => rfl); (case hg => rfl); (case hr => exact zz9); (case hp => exact (Reps.none _ _)); intro v19 w1b ho hb hg_ hnew_; have HS0 := zK_ ho; have HB1b := zK_ hb; have BK1b := zK_ (blk_grown BK1a.out hg_ (by simp)); clear ho hb hg_ hnew_; have hy0 : w1b.cell? ⟨w.heap.size, 0, none⟩ = some (.int .i64 aD) := (blk_cell BK1b.out 0).trans rfl; have hy1 : w1b.cell? ⟨w.heap.size, 1, none⟩ = some (.slice aH aC.length aG) := (blk_cell BK1b.out 1).trans rfl))); refine (spec_LaplacianOf.calls k _ _ _ aC L _ (Kd.C_below HR.out HB1b.out) HC.out HL.out).mono ?_; rintro e w2 ⟨vL, rfl, hS, hb⟩; have HB2 := zK_ (below_step HB1b.out hb); obtain ⟨AL, cL, eL, hcL, _⟩ := Kd.S_reads hS; subst eL; have HSL := zK_ (Kd.S_mono (Kd.S_bound hS) (ok' := fun k => w1b.heap.size ≤ k ∧ k < w2.heap.size) fun k hk => ⟨hk.2.1, hk.2.2.1⟩); have HSI := zK_ (Kd.S_mono (Kd.S_bound (Kd.S_below (Kd.S_bound HS0.out) hb)) (ok' := fun k => k < w1b.heap.size ∨ w2.heap.size ≤ k) fun k hk => .inl hk.1.2.2.1); have HW := zK_ hb.size; have hLl : L.length ≤ cL := hcL; clear hS hb hcL hz0 hz1 hy0 hy1 HS0; go_wp2; (go_loopw [5, 23] (fun v5 v23 wr => ∃ i : Nat, v23 = .int .i64 (i : Int) ∧ Aside0 (i ≤ L.length ∧ w2.heap.size ≤ wr.heap.size) ∧ Aside0 (Below w.heap.size w wr) ∧ Aside0 (Kd.S (Kd.slice 3 (Kd.int .i64)) 26 wr w1b.heap.size (fun k => w1b.heap.size ≤ k ∧ k < w2.heap.size) (.slice AL L.length cL) L) ∧ Aside0 (Kd.S (Kd.slice 3 (Kd.int .i64)) 26 wr w.heap.size (fun k => k < w1b.heap.size ∨ w2.heap.size ≤ k) v5 (Cf.keepF q L i))) (fun _ v _ => L.length - (intOf v).toNat)); case atStart => exact ⟨0, rfl, ⟨Nat.zero_le _, Nat.le_refl _⟩, HB2, HSL, HSI⟩
    case round =>
     obtain ⟨i, rfl, HI, HBr, HLr, HS⟩ := hrel; by_cases hlt : i < L.length; rotate_left
     ·have c0 : decide ((i : Int) < (L.length : Int)) = false := decide_eq_false (by omega); (have hi : i = L.length := by have := HI.out; omega); subst hi; clear hlt; go_wp2; go_ret; exact ⟨_, rfl, Kd.S_mono HS.out (fun _ _ => trivial), HBr.out⟩
     have c0 : decide ((i : Int) < (L.length : Int)) = true := decide_eq_true (by omega); obtain ⟨x, hxi⟩ : ∃ x, L[i]? = some x := ⟨_, List.getElem?_eq_getElem hlt⟩
     have hx : rd_L3 L (i : Int) = x := by
      unfold rd_L3; rw [Int.toNat_natCast, List.getD_eq_getElem?_getD, hxi]; rfl
     (have p1 : (0 : Int) ≤ (i : Int) := by omega); (have p2 : (i : Int) < (L.length : Int) := by omega); obtain ⟨gL, Ai, ci, eg, hcell, hci, hCi⟩ := at_L3 (Kd.S_reads' HLr.out).2.2 (i : Int) p1 p2; subst eg; rw [hx] at hcell hci hCi; rw [Int.toNat_natCast] at hcell; have HRi := zK_ hCi; have HCi := zK_ hci; (have hib : (i : Int) ≤ 1000000 := by have := HQ.out.2.1; omega); (have hq0 : (0 : Int) ≤ (q : Int) := by omega); (have hqb : (q : Int) ≤ 1000000 := by have := HQ.out.1; omega); have HLT := zK_ hlt; have HXI := zK_ hxi; clear hxi hlt hCi hci hx; by_cases hq : i = q
     ·(have c1 : ((i : Int) == (q : Int)) = true := by simp [hq]); (have c2 : ((i : Int) != (q : Int)) = false := by simp [hq]); have HQI := zK_ hq; clear hq; go_wp2; go_roundw
      case rel =>
       refine ⟨i + 1, by go_num, ⟨by have := HLT.out; omega, HI.out.2⟩, HBr, HLr, ⟨?_⟩⟩; have e : Cf.keepF q L (i + 1) = Cf.keepF q L i := if_pos HQI.out; rw [e]; exact HS.out
      case measure =>
       have := HLT.out; (simp [intOf]); omega
     (have c1 : ((i : Int) == (q : Int)) = false := by simp; omega); (have c2 : ((i : Int) != (q : Int)) = true := by simp; omega); have HQI := zK_ hq; clear hq; have hql : q < x.length := HQ.out.2.2 x (List.mem_of_getElem? HXI.out); have HXL := zK_ (show q < x.length ∧ x.length ≤ 1000000 from ⟨hql, HLEN.out x (List.mem_of_getElem? HXI.out)⟩); have HKL := zK_ (Cf.keepF_len q L i); (try go_wp2); have HBd := zK_ (below_drew1 HBr.out); have HId := zK_ (show w2.heap.size ≤ wr.drew.heap.size from HI.out.2); have HLd := zK_ (Kd.S_drew HLr.out); have HSd := zK_ (Kd.S_drew HS.out); have HRd := zK_ (Kd.C_below HRi.out (below_drew (Below.refl _ _))); clear HBr HS HRi HLr; obtain ⟨it, hit, _, hszt, _⟩ := info_parts info3; obtain ⟨hcutt, hAt, hCt⟩ := print_take_of (P := Try.prog) (Value.int .i64) 0 26 3 .i64 Try.underlying26 hit hszt Ai ci x (q : Int) hq0 (by omega) HCi.out; obtain ⟨ji, hji⟩ : ∃ j : Int, wrap64 ((q : Int) + 1) = j := ⟨_, rfl⟩; have hjiw : IntKind.i64.wrap ((q : Int) + 1) = ji := (i64_w _).trans hji; have HJ := zK_ (show ji = ((q : Int) + 1) from by rw [← hji]; unfold wrap64; omega); obtain ⟨Ae, hcute, hAe, hCe⟩ := print_drop_of (P := Try.prog) (Value.int .i64) 0 26 3 .i64 Try.underlying26 hit hszt Ai ci x ji (by have := HJ.out; omega) (by have := HJ.out; omega) HCi.out; rw [Int.toNat_natCast] at hcutt hAt hCt; rw [show ji.toNat = q + 1 from by have := HJ.out; omega] at hcute hAe hCe; clear hit hszt hCt hCe; refine start_ (n := 14) (S := fun w' => True) (ds := []) (zM 14 0) (by kernel_rfl) rfl rfl trivial (fun hHeld => ?_); refine with_tabW spec_ReducedLaplacian.tab8 spec_ReducedLaplacian.bits8 (fun HT_ HW_ => ?_); generalize wr.drew = wd at HBd HSd HRd HId HLd hHeld ⊢; have HRt := zK_ (Kd.C_of_reads (h1 := fun _ => rfl) (hAt _ (Kd.reads_of_C HRd.out))); have HRe := zK_ (Kd.C_of_reads (h1 := fun _ => rfl) (hAe _ (Kd.reads_of_C HRd.out))); clear hAt hAe; refine zQ 0 31 (zM 14 1) ?_
     refine zQ 2 33 (zM 14 5) ?_
     refine zQ 3 34 (zM 14 13) ?_
     refine zQ 4 35 (zM 14 29) ?_
     refine zQ 6 37 (zM 14 93) ?_
     refine zQ 7 38 (zM 14 221) ?_
     refine zQ 8 39 (zM 14 477) ?_
     refine zQ 9 40 (zM 14 989) ?_
     refine one_ (i := 1) (N := some 32) (zM 14 991) rfl rfl (one_of HT_.out (by kernel_rfl)) (by decide) (fun K hK => ?_); refine Kd.R_lit_step (w0 := wd) (Kd.int .i64) wd.heap.size 3 ?hg (N := 32) ?hd (xs := ([] : List Int)) (inner := []) (ok := fun _ => True) (okp := fun _ => True) ?hr ?hp (fun _ hk => hk) trivial (Below.refl _ _) (Nat.le_refl _) (by simp) ?_; (case hd => rfl); (case hg => rfl); (case hr => exact zz9); (case hp => exact (Reps.none _ _)); intro vA wA hoA hbA hg_ hnew_; clear hg_ hnew_; have HOA := zK_ hoA; have HBA := zK_ hbA; clear hoA hbA; refine hK.out _ _ trivial (fun hHeld => ?_); clear hK K; refine norm_ (a' := ?_) ?_ ?_; rotate_left
     ·show Act.put _ (some 32) _ = _; exact zzS
     refine one_ (i := 5) (N := some 36) (zM 14 1023) rfl rfl (one_of HT_.out (by kernel_rfl)) (by decide) (fun K hK => ?_); refine Kd.R_append_rows_step (Kd.int .i64) (w0 := wd) wd.heap.size (by rfl) (.tmp 32) (.tmp 35) 26 3 (.int .i64 0) 8 rfl Try.underlying26 info3 rfl (by decide) (by omega) vA ([] : List Int) (x.take q) _ _ _ (fun _ => True) (fun _ => False) rfl rfl HOA.out (by have h_ := Kd.C_below HRt.out HBA.out; rw [List.length_take] at h_; exact h_) (fun _ _ h => h) (fun _ h => h.elim) (fun _ _ => trivial) HBA.out (below_size HBA.out) (by have := HXL.out; simp only [List.length_nil, List.length_take]; omega) ?_; intro vB wB hoB hbB hg_ hat_; clear hg_ hat_; have HOB := zK_ hoB; have HBB := zK_ hbB; clear hoB hbB HOA HBA; refine hK.out _ _ trivial (fun hHeld => ?_); clear hK K; refine norm_ (a' := ?_) ?_ ?_; rotate_left
     ·show Act.put _ (some 36) _ = _; exact zzS
     refine one_ (i := 10) (N := some 41) (zM 14 2047) rfl rfl (one_of HT_.out (by kernel_rfl)) (by decide) (fun K hK => ?_); refine Kd.R_append_rows_step (Kd.int .i64) (w0 := wd) wd.heap.size (by rfl) (.tmp 36) (.tmp 40) 26 3 (.int .i64 0) 8 rfl Try.underlying26 info3 rfl (by decide) (by omega) vB ([] ++ x.take q) (x.drop (q + 1)) _ _ _ (fun _ => True) (fun _ => False) rfl rfl HOB.out (by have h_ := Kd.C_below HRe.out HBB.out; rw [List.length_drop] at h_; exact h_) (fun _ _ h => h) (fun _ h => h.elim) (fun _ _ => trivial) HBB.out (below_size HBB.out) (by have := HXL.out; simp only [List.nil_append, List.length_drop, List.length_take]; omega) ?_; intro vC wC hoC hbC hg_ hat_; clear hg_ hat_; rw [List.nil_append, ← List.eraseIdx_eq_take_drop_succ] at hoC; obtain ⟨Ad, cd, ed⟩ := Kd.R_slice hoC; subst ed; have HD := zK_ (Kd.R_mono (Kd.R_bound (Kd.R_lower hoC (Nat.le_refl wd.heap.size))) (ok' := fun k => wd.heap.size ≤ k) fun k hk => hk.2.1); have HBC := zK_ hbC; clear hoC hbC HOB HBB; refine hK.out _ _ trivial (fun hHeld => ?_); clear hK K; refine norm_ (a' := ?_) ?_ ?_; rotate_left
     ·show Act.put _ (some 41) _ = _; exact zzS
     refine one_ (i := 11) (N := some 42) (zM 14 4095) rfl rfl (one_of HT_.out (by kernel_rfl)) (by decide) (fun K hK => ?_); refine value_ (w1 := ?_) (v := ?_) (by rfl) rfl ?_ ?_; rotate_left 2
     ·go_simp; constructor
      ·rfl
      ·rfl
     refine hK.out _ _ trivial (fun hHeld => ?_); clear hK K; refine norm_ (a' := ?_) ?_ ?_; rotate_left
     ·show Act.put _ (some 42) _ = _; exact zzS
     refine one_ (i := 12) (N := some 43) (zM 14 8191) rfl rfl (one_of HT_.out (by kernel_rfl)) (by decide) (fun K hK => ?_); refine Kd.S_append_step (Kd.slice 3 (Kd.int .i64)) (w0 := w) w.heap.size (by rfl) (.tmp 31) (.tmp 42) 34 26 (.slice none 0 0) 24 rfl Try.underlying34 info26 rfl (by decide) (by omega) u5 (Cf.keepF q L i) (x.eraseIdx q) [.slice Ad (x.eraseIdx q).length cd] (fun k => k < w1b.heap.size ∨ w2.heap.size ≤ k) (fun k => wd.heap.size ≤ k) rfl rfl (Kd.M_row (Kd.R_lower HD.out (below_size HBd.out))) ?aK (fun k hk => .inr (by have := HId.out; have := HBC.out.size; omega)) ?aO (below_step HBd.out HBC.out) (below_size (below_step HBd.out HBC.out)) ?aL ?_; (case aK => exact fun k hk => ⟨.inr (by have := HId.out; omega), fun e => by have := Kd.S_lt HSd.out k e.symm; omega⟩); (case aO => exact Kd.S_mono (Kd.S_below (Kd.S_bound HSd.out) HBC.out) fun k hk => ⟨hk.1, fun h => by have := hk.2.2.1; omega⟩); (case aL => have := HKL.out; have := HQ.out.2.1; have := HLT.out; omega); intro vE wE hoE hbE hgE hat_; have HOE := zK_ hoE; have HBE := zK_ hbE; have HLE := zK_ (Kd.S_grown (Kd.S_below (Kd.S_bound HLd.out) HBC.out) hgE fun k hk e => by have := HSd.out.choose_spec.1 k e.symm; have := hk.1; omega); have HZE := zK_ hgE.size; clear hoE hbE hgE hat_; refine hK.out _ _ trivial (fun hHeld => ?_); clear hK K; refine norm_ (a' := ?_) ?_ ?_; rotate_left
     ·show Act.put _ (some 43) _ = _; exact zzS
     refine zQ 13 5 (zM 14 16383) ?_
     refine done_ (done_of HT_.out (by kernel_rfl)) ?_; (try go_wp2); go_roundw
     case rel =>
      refine ⟨i + 1, by go_num, ⟨by have := HLT.out; omega, by have := HBC.out.size; have := HZE.out; have := HId.out; omega⟩, HBE, ⟨Kd.S_mono HLE.out fun k hk => hk.1⟩, ⟨?_⟩⟩
      ·have e : Cf.keepF q L (i + 1) = Cf.keepF q L i ++ [x.eraseIdx q] := by
        show (if i = q then _ else _) = _; rw [if_neg HQI.out, List.getD_eq_getElem?_getD, HXI.out]; rfl
       rw [e]; exact HOE.out
     case measure =>
      have := HLT.out; (simp [intOf]); omega
   ·cases H
def spec_CountTrees.f (k : Nat) (aD : Int) (aC : List (S57)) : Option (Int) := (spec_GraphOk.f k aD aC).bind fun aQ => (if aQ = true then ((spec_ReducedLaplacian.f k aD aC 0).bind fun bQ => ((spec_Determinant.f k bQ).bind fun cK => (some cK))) else (some 0))
theorem spec_CountTrees.mono : ∀ a0 a1 k, LeO (spec_CountTrees.f k a0 a1) (spec_CountTrees.f (k + 1) a0 a1) := by
 intro a0 a1 k; unfold spec_CountTrees.f; repeat' first | (with_reducible apply spec_Determinant.mono) | (with_reducible apply spec_GraphOk.mono) | (with_reducible apply spec_ReducedLaplacian.mono) | (with_reducible exact LeO.refl _) | (with_reducible exact LeO.none _) | (with_reducible refine LeO.ite ?_ ?_) | (with_reducible refine LeO.bind ?_ (fun _ => ?_)) | apply spec_Determinant.mono | apply spec_GraphOk.mono | apply spec_ReducedLaplacian.mono | exact LeO.none _ | refine LeO.ite ?_ ?_ | refine LeO.bind ?_ (fun _ => ?_)
theorem spec_CountTrees.calls (k : Nat) (aD : Int) (aH : Option Addr) (aG : Nat) (aC : List (S57)) (r : Int) (w : World) (hr0_1 : Kd.C k57 w aH aC.length aC) (hc0_1 : aC.length ≤ aG) (h : spec_CountTrees.f k aD aC = some r) :
  Calls Try.prog 77 #[.agg #[.int .i64 aD, .slice aH aC.length aG]] w fun e w' => e = .returned (.int .i64 r) ∧ Below w.heap.size w w' := by
 have hu25 := Try.underlying25; have bJ := zK_ hr0_1; have bE := zK_ hc0_1; clear hr0_1 hc0_1; have HB := zK_ (Below.refl w.heap.size w); have H : ((spec_GraphOk.f k aD aC).bind fun aQ => (if aQ = true then ((spec_ReducedLaplacian.f k aD aC 0).bind fun bQ => ((spec_Determinant.f k bQ).bind fun cK => (some cK))) else (some 0))) = some r := h; clear h; obtain ⟨aQ, A20, H⟩ := zO_ H; (try dsimp only at H); have A2 := zK_ A20; clear A20; by_cases c3 : aQ = true; rotate_left
 ·replace c3 := Bool.eq_false_iff.mpr c3; subst c3; rw [if_neg (show ¬ (false = true) by decide)] at H; obtain rfl := Option.some.inj H; go_enter Try.func77, Try.ntmps77; (go_wp2_with (first | ((with_reducible refine gate_dst (N := 1) rfl ?_); refine box_event ?hg (N := 1) ?hd (cs := #[.int .i64 aD, .slice aH aC.length aG]) (t := 25) ?hr ?_; (case hd => rfl); (case hg => rfl); (case hr => exact zz9); intro aE hg w13 hbox hb; have n_ := zA4 (below_step zz1 hb) hbox (zz10 : w.heap.size ≤ aE) (zz10 : w.heap.size ≤ aE); clear HB; obtain ⟨HB, aA, GW101, GE101⟩ := n_; clear hb hbox hg; have d3 := zC20 aA; have d2 := zC21 aA; have dZ := blk_frozen aA.out 0; have dY := blk_frozen aA.out 1) | ((with_reducible refine gate_callee (f := 55) rfl ?_); refine goesL_ (some 4) rfl rfl Try.func55 (by kernel_rfl) rfl #[.agg #[.int .i64 aD, .slice aH aC.length aG]] rfl zz3 ?_; (with_reducible refine (spec_GraphOk.calls k aD _ _ aC false _ ?side1 ?side2 A2.out).mono ?_); (case side1 => exact zz6); (case side2 => exact bE.out); rintro e w15 ⟨rfl, hb⟩; refine ⟨_, rfl, ?_⟩; have n_ := zA2 (blk_below (g := aE) (o := .cells #[.int .i64 aD, .slice aH aC.length aG] 25 (0, 0)) zz2 hb) (below_step zz0 hb); clear aA HB; obtain ⟨aA, HB⟩ := n_; clear hb))); go_ret; exact ⟨zz7, zz0⟩
 subst c3; rw [if_pos rfl] at H; obtain ⟨bQ, A40, H⟩ := zO_ H; (try dsimp only at H); have A4 := zK_ A40; clear A40; obtain ⟨cK, A50, H⟩ := zO_ H; (try dsimp only at H); have A5 := zK_ A50; clear A50; obtain rfl := Option.some.inj H; go_enter Try.func77, Try.ntmps77; (go_wp2_with (first | ((with_reducible refine gate_dst (N := 1) rfl ?_); refine box_event ?hg (N := 1) ?hd (cs := #[.int .i64 aD, .slice aH aC.length aG]) (t := 25) ?hr ?_; (case hd => rfl); (case hg => rfl); (case hr => exact zz9); intro aE hg w6 hbox hb; have n_ := zA4 (below_step zz1 hb) hbox (zz10 : w.heap.size ≤ aE) (zz10 : w.heap.size ≤ aE); clear HB; obtain ⟨HB, aA, GW101, GE101⟩ := n_; clear hb hbox hg; have eO := zC20 aA; have eM := zC21 aA; have eI := blk_frozen aA.out 0; have eH := blk_frozen aA.out 1) | ((with_reducible refine gate_callee (f := 55) rfl ?_); refine goesL_ (some 4) rfl rfl Try.func55 (by kernel_rfl) rfl #[.agg #[.int .i64 aD, .slice aH aC.length aG]] rfl zz3 ?_; (with_reducible refine (spec_GraphOk.calls k aD _ _ aC true _ ?side1 ?side2 A2.out).mono ?_); (case side1 => exact zz6); (case side2 => exact bE.out); rintro e w8 ⟨rfl, hb⟩; refine ⟨_, rfl, ?_⟩; have n_ := zA2 (blk_below (g := aE) (o := .cells #[.int .i64 aD, .slice aH aC.length aG] 25 (0, 0)) zz2 hb) (below_step zz0 hb); clear aA HB; obtain ⟨aA, HB⟩ := n_; clear hb; have fD := zC20 aA; have fC := zC21 aA; have fB := blk_frozen aA.out 0; have fA := blk_frozen aA.out 1) | ((with_reducible refine gate_callee (f := 107) rfl ?_); refine goesL_ (some 7) rfl rfl Try.func107 (by kernel_rfl) rfl #[.agg #[.int .i64 aD, .slice aH aC.length aG], .int .i64 0] rfl zz3 ?_; (with_reducible refine (spec_ReducedLaplacian.calls k aD _ _ aC 0 bQ _ ?side1 ?side2 A4.out).mono ?_); (case side1 => exact zz6); (case side2 => exact bE.out); rintro e w10 ⟨v104, rfl, ho0, hb⟩; refine ⟨_, rfl, ?_⟩; have n_ := zA3 (Kd.S_lower ho0 (below_size zz0)) (blk_below (g := aE) (o := .cells #[.int .i64 aD, .slice aH aC.length aG] 25 (0, 0)) zz2 hb) (below_step zz0 hb); clear aA HB; obtain ⟨eW, aA, HB⟩ := n_; clear ho0 hb; obtain ⟨Ao11, co11, tH⟩ := Kd.S_slice eW.out; subst tH) | ((with_reducible refine gate_callee (f := 106) rfl ?_); refine goesL_ (some 8) rfl rfl Try.func106 (by kernel_rfl) rfl #[.slice Ao11 bQ.length co11] rfl zz3 ?_; (with_reducible refine (spec_Determinant.calls k _ _ bQ cK _ ?side1 ?side2 A5.out).mono ?_); (case side1 => repeat (first | exact (Kd.S_reads' eW.out).2.2 | (with_reducible refine Kd.C_alloc ?_ _) | (with_reducible refine Kd.C_drewN ?_ _) | (with_reducible refine Kd.C_drew ?_))); (case side2 => exact (Kd.S_reads' eW.out).2.1); rintro e w12 ⟨rfl, hb⟩; refine ⟨_, rfl, ?_⟩; have n_ := zA3 (Kd.S_below (by (with_reducible repeat (first | apply Kd.S_alloc | apply Kd.S_drewN | apply Kd.S_drew)); exact eW.out) hb) (blk_below (g := aE) (o := .cells #[.int .i64 aD, .slice aH aC.length aG] 25 (0, 0)) zz2 hb) (below_step zz0 hb); clear eW aA HB; obtain ⟨eW, aA, HB⟩ := n_; clear hb))); go_ret; exact ⟨zz7, zz0⟩
def spec_GroupOrder.f (k : Nat) (aD : Int) (aC : List (S57)) : Option (Int) := (spec_CountTrees.f k aD aC).bind fun aQ => (some aQ)
theorem spec_GroupOrder.mono : ∀ a0 a1 k, LeO (spec_GroupOrder.f k a0 a1) (spec_GroupOrder.f (k + 1) a0 a1) := by
 intro a0 a1 k; unfold spec_GroupOrder.f; repeat' first | (with_reducible apply spec_CountTrees.mono) | (with_reducible exact LeO.refl _) | (with_reducible exact LeO.none _) | (with_reducible refine LeO.ite ?_ ?_) | (with_reducible refine LeO.bind ?_ (fun _ => ?_)) | apply spec_CountTrees.mono | exact LeO.none _ | refine LeO.ite ?_ ?_ | refine LeO.bind ?_ (fun _ => ?_)
theorem spec_GroupOrder.calls (k : Nat) (aD : Int) (aH : Option Addr) (aG : Nat) (aC : List (S57)) (r : Int) (w : World) (hr0_1 : Kd.C k57 w aH aC.length aC) (hc0_1 : aC.length ≤ aG) (h : spec_GroupOrder.f k aD aC = some r) :
  Calls Try.prog 57 #[.agg #[.int .i64 aD, .slice aH aC.length aG]] w fun e w' => e = .returned (.int .i64 r) ∧ Below w.heap.size w w' := by
 have hu25 := Try.underlying25; have bJ := zK_ hr0_1; have bE := zK_ hc0_1; clear hr0_1 hc0_1; have HB := zK_ (Below.refl w.heap.size w); have H : ((spec_CountTrees.f k aD aC).bind fun aQ => (some aQ)) = some r := h; clear h; obtain ⟨aQ, A20, H⟩ := zO_ H; (try dsimp only at H); have A2 := zK_ A20; clear A20; obtain rfl := Option.some.inj H; go_enter Try.func57, Try.ntmps57; (go_wp2_with (first | ((with_reducible refine gate_dst (N := 1) rfl ?_); refine box_event ?hg (N := 1) ?hd (cs := #[.int .i64 aD, .slice aH aC.length aG]) (t := 25) ?hr ?_; (case hd => rfl); (case hg => rfl); (case hr => exact zz9); intro aE hg w3 hbox hb; have n_ := zA4 (below_step zz1 hb) hbox (zz10 : w.heap.size ≤ aE) (zz10 : w.heap.size ≤ aE); clear HB; obtain ⟨HB, aA, GW101, GE101⟩ := n_; clear hb hbox hg; have tC := zC20 aA; have tB := zC21 aA; have sX := blk_frozen aA.out 0; have sW := blk_frozen aA.out 1) | ((with_reducible refine gate_callee (f := 77) rfl ?_); refine goesL_ (some 4) rfl rfl Try.func77 (by kernel_rfl) rfl #[.agg #[.int .i64 aD, .slice aH aC.length aG]] rfl zz3 ?_; (with_reducible refine (spec_CountTrees.calls k aD _ _ aC aQ _ ?side1 ?side2 A2.out).mono ?_); (case side1 => exact zz6); (case side2 => exact bE.out); rintro e w5 ⟨rfl, hb⟩; refine ⟨_, rfl, ?_⟩; have n_ := zA2 (blk_below (g := aE) (o := .cells #[.int .i64 aD, .slice aH aC.length aG] 25 (0, 0)) zz2 hb) (below_step zz0 hb); clear aA HB; obtain ⟨aA, HB⟩ := n_; clear hb))); go_ret; exact ⟨zz7, zz0⟩
mutual
def spec_l05Burn.l0 : Nat → List Int → List Int → List Bool → Int → List (S57) → Option (List Int)
 | 0, _, _, _, _, _ => none
 | k + 1, x1, x7, x8, aJ, aI => spec_l05Burn.l1 k x1 x7 x8 (-1) (wrap64 (aJ - 1)) aJ aI
def spec_l05Burn.l1 : Nat → List Int → List Int → List Bool → Int → Int → Int → List (S57) → Option (List Int)
 | 0, _, _, _, _, _, _, _ => none
 | k + 1, x1, x7, x8, x9, fF, aJ, aI => if fF ≥ 0 then (spec_l05Burn.l2 k x1 x7 x8 x9 fF 0 0 aJ aI) else (if x9 < 0 then (some x7) else (if 0 ≤ x9 then (if x9 < (x8.length : Int) then (if x7.length < 17592186044416 then (spec_l05Burn.l0 k x1 (x7 ++ [x9]) (x8.set (x9 : Int).toNat true) aJ aI) else (none)) else (none)) else (none)))
def spec_l05Burn.l2 : Nat → List Int → List Int → List Bool → Int → Int → Int → Int → Int → List (S57) → Option (List Int)
 | 0, _, _, _, _, _, _, _, _, _ => none
 | k + 1, x1, x7, x8, x9, fF, d5, j6, aJ, aI => if j6 < aJ then (if 0 ≤ j6 then (if j6 < (x8.length : Int) then (if rdOf false x8 j6 = true then ((spec_Multiplicity.f k aJ aI fF j6).bind fun o9 => (spec_l05Burn.l2 k x1 x7 x8 x9 fF (wrap64 (d5 + o9)) (wrap64 (j6 + 1)) aJ aI)) else (spec_l05Burn.l2 k x1 x7 x8 x9 fF d5 (wrap64 (j6 + 1)) aJ aI)) else (none)) else (none)) else (if 0 ≤ fF then (if fF < (x8.length : Int) then (if rdOf false x8 fF = true then (spec_l05Burn.l1 k x1 x7 x8 x9 (wrap64 (fF - 1)) aJ aI) else (if fF < (x1.length : Int) then (if (rd x1 fF) < d5 then (spec_l05Burn.l1 k x1 x7 x8 fF (wrap64 (fF - 1)) aJ aI) else (spec_l05Burn.l1 k x1 x7 x8 x9 (wrap64 (fF - 1)) aJ aI)) else (none))) else (none)) else (none))
end
def spec_l05Burn.f (k : Nat) (aD : Int) (aC : List (S57)) (l1 : List Int) (a2 : Int) : Option (List Int) := if 0 ≤ aD then (if (aD : Int).toNat ≤ 281474976710656 then ((some (List.replicate (aD : Int).toNat false : List Bool)).bind fun eG => (if 0 ≤ a2 then (if a2 < (eG.length : Int) then (spec_l05Burn.l0 k l1 (([a2] : List Int)) (eG.set (a2 : Int).toNat true) aD aC) else (none)) else (none))) else (none)) else (none)
theorem spec_l05Burn.mono_l : ∀ k, (∀ y0 y1 y2 y3 y4, LeO (spec_l05Burn.l0 k y0 y1 y2 y3 y4) (spec_l05Burn.l0 (k + 1) y0 y1 y2 y3 y4)) ∧ (∀ y0 y1 y2 y3 y4 y5 y6, LeO (spec_l05Burn.l1 k y0 y1 y2 y3 y4 y5 y6) (spec_l05Burn.l1 (k + 1) y0 y1 y2 y3 y4 y5 y6)) ∧ (∀ y0 y1 y2 y3 y4 y5 y6 y7 y8, LeO (spec_l05Burn.l2 k y0 y1 y2 y3 y4 y5 y6 y7 y8) (spec_l05Burn.l2 (k + 1) y0 y1 y2 y3 y4 y5 y6 y7 y8))
 | 0 => ⟨fun _ _ _ _ _ r h => by simp [spec_l05Burn.l0] at h, fun _ _ _ _ _ _ _ r h => by simp [spec_l05Burn.l1] at h, fun _ _ _ _ _ _ _ _ _ r h => by simp [spec_l05Burn.l2] at h⟩
 | k + 1 => by
  obtain ⟨ih0, ih1, ih2⟩ := spec_l05Burn.mono_l k
  refine ⟨?_, ?_, ?_⟩
  ·intro y0 y1 y2 y3 y4
   unfold spec_l05Burn.l0
   exact zm4
  ·intro y0 y1 y2 y3 y4 y5 y6
   unfold spec_l05Burn.l1
   exact zm4
  ·intro y0 y1 y2 y3 y4 y5 y6 y7 y8
   unfold spec_l05Burn.l2
   exact zm4
theorem spec_l05Burn.mono : ∀ a0 a1 a2 a3 k, LeO (spec_l05Burn.f k a0 a1 a2 a3) (spec_l05Burn.f (k + 1) a0 a1 a2 a3) := by
 intro a0 a1 a2 a3 k; obtain ⟨ih0, ih1, ih2⟩ := spec_l05Burn.mono_l k; unfold spec_l05Burn.f; exact zm4
theorem spec_l05Burn.calls (k : Nat) (aD : Int) (aH : Option Addr) (aG : Nat) (aC : List (S57)) (A1 : Option Addr) (c1 : Nat) (l1 : List Int) (a2 : Int) (r : List Int) (w : World) (hr0_1 : Kd.C k57 w aH aC.length aC) (hc0_1 : aC.length ≤ aG) (hr1 : Kd.C (Kd.int .i64) w A1 l1.length l1) (hc1 : l1.length ≤ c1) (h : spec_l05Burn.f k aD aC l1 a2 = some r) :
  Calls Try.prog 95 #[.agg #[.int .i64 aD, .slice aH aC.length aG], .slice A1 l1.length c1, .int .i64 a2] w fun e w' => ∃ v0_ : Value, e = .returned (v0_) ∧ Kd.R (Kd.int .i64) 3 w' w.heap.size (fun _ => True) v0_ r ∧ Below w.heap.size w w' := by
 have hu25 := Try.underlying25; have bJ := zK_ hr0_1; have bE := zK_ hc0_1; clear hr0_1 hc0_1; have HR1 := zK_ hr1; have HC1 := zK_ hc1; clear hr1 hc1; have HB := zK_ (Below.refl w.heap.size w); have H : (if 0 ≤ aD then (if (aD : Int).toNat ≤ 281474976710656 then ((some (List.replicate (aD : Int).toNat false : List Bool)).bind fun eG => (if 0 ≤ a2 then (if a2 < (eG.length : Int) then (spec_l05Burn.l0 k l1 (([a2] : List Int)) (eG.set (a2 : Int).toNat true) aD aC) else (none)) else (none))) else (none)) else (none)) = some r := h; clear h; obtain ⟨iS, hy_⟩ : ∃ y_ : List Int, y_ = (([a2] : List Int)) := ⟨_, rfl⟩; (replace H : (if 0 ≤ aD then (if (aD : Int).toNat ≤ 281474976710656 then ((some (List.replicate (aD : Int).toNat false : List Bool)).bind fun eG => (if 0 ≤ a2 then (if a2 < (eG.length : Int) then (spec_l05Burn.l0 k l1 iS (eG.set (a2 : Int).toNat true) aD aC) else (none)) else (none))) else (none)) else (none)) = some r := zzY); have g4 := zK_ hy_; clear hy_; by_cases c4 : 0 ≤ aD; rotate_left
 ·rw [if_neg c4] at H; exact absurd H (by simp)
 rw [if_pos c4] at H; have dI := eq_true c4; have j8 : decide (0 ≤ aD) = true := decide_eq_true c4; clear c4; by_cases c5 : (aD : Int).toNat ≤ 281474976710656; rotate_left
 ·rw [if_neg c5] at H; exact absurd H (by simp)
 rw [if_pos c5] at H; have dS := eq_true c5; have mA : decide ((aD : Int).toNat ≤ 281474976710656) = true := decide_eq_true c5; clear c5; obtain ⟨eG, hy_⟩ : ∃ y_ : List Bool, y_ = (List.replicate (aD : Int).toNat false) := ⟨_, rfl⟩; (replace H : (if 0 ≤ a2 then (if a2 < (eG.length : Int) then (spec_l05Burn.l0 k l1 iS (eG.set (a2 : Int).toNat true) aD aC) else (none)) else (none)) = some r := zzY); have jZ := zK_ hy_; clear hy_; by_cases c6 : 0 ≤ a2; rotate_left
 ·rw [if_neg c6] at H; exact absurd H (by simp)
 rw [if_pos c6] at H; have eS := decide_eq_true c6; clear c6; by_cases c7 : a2 < (eG.length : Int); rotate_left
 ·rw [if_neg c7] at H; exact absurd H (by simp)
 rw [if_pos c7] at H; have d4 := decide_eq_true c7; clear c7; obtain ⟨o7, hy_⟩ : ∃ y_ : List Bool, y_ = (eG.set (a2 : Int).toNat true) := ⟨_, rfl⟩; (replace H : (spec_l05Burn.l0 k l1 iS o7 aD aC) = some r := zzY); have qW := zK_ hy_; clear hy_; have H' := zK_ H; clear H; go_enter Try.func95, Try.ntmps95; (go_wp2_with (first | ((with_reducible refine gate_dst (N := 3) rfl ?_); refine box_event ?hg (N := 3) ?hd (cs := #[.int .i64 aD, .slice aH aC.length aG]) (t := 25) ?hr ?_; (case hd => rfl); (case hg => rfl); (case hr => exact zz9); intro aE hg w9 hbox hb; have n_ := zA4 (below_step zz1 hb) hbox (zz10 : w.heap.size ≤ aE) (zz10 : w.heap.size ≤ aE); clear HB; obtain ⟨HB, aA, GW101, GE101⟩ := n_; clear hb hbox hg) | ((with_reducible refine gate_dst (N := 14) rfl ?_); refine Kd.R_lit (Kd.int .i64) _ 3 ?hg (N := 14) ?hd (xs := ([a2] : List Int)) (inner := [.int .i64 a2]) (ok := fun _ => True) (okp := fun _ => True) ?hr ?hp (fun _ hk => hk) trivial (Below.refl _ _) (Nat.le_refl _) (by simp) ?_; (case hd => rfl); (case hg => rfl); (case hr => exact zz9); (case hp => exact (Reps.one (show Kd.M (Kd.int .i64) _ _ _ a2 [.int .i64 a2] from rfl) (Reps.none _ _))); intro v103 w10 ho11 hb hg_ hnew_; clear hg_ hnew_; (first | rw [← g4.out] at ho11 | (simp only [Int.reduceToNat] at ho11; rw [← g4.out] at ho11)); have n_ := zA3 (Kd.R_lower ho11 (below_size zz0)) (blk_below (g := aE) (o := .cells #[.int .i64 aD, .slice aH aC.length aG] 25 (0, 0)) zz2 hb) (below_step zz0 hb); clear aA HB; obtain ⟨bT, aA, HB⟩ := n_; clear hb ho11; have fT := zC20 aA; have fS := zC21 aA; have fR := blk_frozen aA.out 0; have fQ := blk_frozen aA.out 1) | ((with_reducible refine gate_dst (N := 17) rfl ?_); refine Kd.R_make Kd.bool _ 4 rfl (N := 17) rfl 92 _ _ rfl aD rfl rfl Try.underlying92 (.bool false) 1 info4 rfl (by decide) (by omega) false (ok := fun _ => True) (okp := fun _ => True) rfl (fun _ hk => hk) trivial (of_decide_eq_true zz4) (Nat.le_trans (Nat.mul_le_mul_right _ (of_decide_eq_true zz4 : aD.toNat ≤ 281474976710656)) (by omega)) (Below.refl _ _) (Nat.le_refl _) ?_; intro v106 w13 ho14 hb hg_ hnew_; clear hg_ hnew_; (first | rw [← jZ.out] at ho14 | (simp only [Int.reduceToNat] at ho14; rw [← jZ.out] at ho14)); have n_ := zA4 (Kd.R_below zz28 hb) (Kd.R_lower ho14 (below_size zz0)) (blk_below (g := aE) (o := .cells #[.int .i64 aD, .slice aH aC.length aG] 25 (0, 0)) zz2 hb) (below_step zz0 hb); clear bT aA HB; obtain ⟨bT, dE, aA, HB⟩ := n_; clear hb ho14; have p8 : 0 ≤ (a2 : Int) := of_decide_eq_true zz4; have q8 : (a2 : Int) < ((eG.length : Int) : Int) := of_decide_eq_true zz4; obtain ⟨go8, co8, r9, r8, gl8, cl8, HG8⟩ := Kd.R_form dE.out (by omega); (first | cases r9 | (injection r9 with ea_ en_ ec_; (first | subst ea_ | (injection ea_ with ea_; subst ea_)); subst ec_; clear en_)); have tR := zK_ r8; have DP := zK_ HG8; clear r8 gl8 HG8; obtain ⟨kV, oF⟩ := Kd.R_celln false dE.out (a2 : Int) p8 q8; replace p8 := eq_true p8; replace q8 := eq_true q8; obtain ⟨hy15_, hz15_⟩ := Kd.R_celln false dE.out (a2 : Int) (of_decide_eq_true zz4) (of_decide_eq_true zz4); have tN := Kd.R_putg dE.out (a2 : Int) true) | ((with_reducible refine gate_store (t := 4) (p := 20) rfl ?_); refine store_event (t := 4) (p := 20) (v := ?vo_w16) (w1 := (w13.setCell ⟨go8, (a2 : Int).toNat, none⟩ (.bool true))) ?hg ?ho ?hn ?hr ?_; (case ho => rfl); (case hg => rfl); (case hn => rfl); (case hr => exact zz9); intro w16 hw; have hg : w13.grownBy w16 (some go8) := (by rw [hw]; exact tN.2); have hp_ : Kd.R Kd.bool 4 w16 w.heap.size (fun _ => True) (.slice (some ⟨go8, 0, none⟩) eG.length co8) o7 := (by rw [hw, qW.out]; exact tN.1); clear tN; have n_ := zA4 (blk_grown (g := aE) (o := .cells #[.int .i64 aD, .slice aH aC.length aG] 25 (0, 0)) zz2 hg (Kd.R_ne dE.out aA.out (by decide))) (Kd.R_over' (v := (.slice (some ⟨go8, 0, none⟩) eG.length co8)) zz28 (Kd.R_typed dE.out) (by decide) hg) hp_ (by rw [hw]; exact below_set (HB.out) tR.out : Below w.heap.size w w16); clear aA bT dE HB; obtain ⟨aA, bT, dE, HB⟩ := n_; clear hg hw hp_))); (go_loopg [7] k (fun kq v7 w' => ∃ (b9 : List Int) (bD : List Bool), Aside0 (spec_l05Burn.l0 kq l1 b9 bD aD aC = some r) ∧ Aside0 (kq ≤ k) ∧ Aside0 (Kd.R (Kd.int .i64) 3 w' w.heap.size (fun _ => True) v7 b9) ∧ Aside0 (Kd.R Kd.bool 4 w' w.heap.size (fun _ => True) (.slice (some ⟨go8, 0, none⟩) eG.length co8) bD) ∧ Aside0 (w'.heap[aE]? = some (.cells #[.int .i64 aD, (.slice aH aC.length aG)] 25 (0, 0))) ∧ Aside0 (Below w.heap.size w w'))); case atStart => exact ⟨(iS), (o7), H', ⟨Nat.le_refl _⟩, ⟨by (with_reducible repeat (first | apply Kd.R_alloc | apply Kd.R_drewN | apply Kd.R_drew)); exact bT.out⟩, ⟨by (with_reducible repeat (first | apply Kd.R_alloc | apply Kd.R_drewN | apply Kd.R_drew)); exact dE.out⟩, ⟨zz2⟩, ⟨zz0⟩⟩
 case round =>
  clear H'; (try clear c1); (try clear p2); (try clear c4); (try clear dI); (try clear j8); (try clear c5); (try clear dS); (try clear mA); (try clear c6); (try clear eS); (try clear c7); (try clear d4); (try clear p8); (try clear q8); (try clear hx8); (try clear hf8); (try clear c9); (try clear fT); (try clear fS); (try clear fR); (try clear fQ); (try clear kV); (try clear p8); (try clear q8); obtain ⟨b9, bD, HA, HK1, f3, cS, aA, HB⟩ := hrel; have fX := (Kd.R_reads' cS.out).1; rw [fX] at cS; (try simp only [fX]); (try simp only [fX] at aA); (try simp only [fX] at f3)
  cases gk with
  | zero => exact absurd HA.out (by simp [spec_l05Burn.l0])
  | succ k1 =>
   have H := HA.out; clear HA; simp only [spec_l05Burn.l0] at H; have H' := zK_ H; clear H; have kU := zC20 aA; have kT := zC21 aA; have kO := blk_frozen aA.out 0; have kN := blk_frozen aA.out 1; go_wp2; (go_loopg [9, 10] k1 (fun kq v9 v10 w' => ∃ (dC : Int) (cJ : Int), v9 = .int .i64 dC ∧ v10 = .int .i64 cJ ∧ Aside0 (spec_l05Burn.l1 kq l1 b9 bD dC cJ aD aC = some r) ∧ Aside0 (kq ≤ k1) ∧ Aside0 (Kd.R (Kd.int .i64) 3 w' w.heap.size (fun _ => True) u7 b9) ∧ Aside0 (Kd.R Kd.bool 4 w' w.heap.size (fun _ => True) (.slice (some ⟨go8, 0, none⟩) bD.length co8) bD) ∧ Aside0 (w'.heap[aE]? = some (.cells #[.int .i64 aD, (.slice aH aC.length aG)] 25 (0, 0))) ∧ Aside0 (Below w.heap.size w w'))); case atStart => exact ⟨((-1)), (wrap64 (aD - 1)), zz5, zz5, H', ⟨Nat.le_refl _⟩, ⟨zz33⟩, ⟨zz27⟩, ⟨zz25⟩, ⟨zz0⟩⟩
   case round =>
    clear H'; (try clear c1); (try clear p2); (try clear c4); (try clear dI); (try clear j8); (try clear c5); (try clear dS); (try clear mA); (try clear c6); (try clear eS); (try clear p6); (try clear c7); (try clear d4); (try clear p8); (try clear q8); (try clear hx8); (try clear hf8); (try clear c9); (try clear fT); (try clear fS); (try clear kU); (try clear kT); (try clear fR); (try clear fQ); (try clear kO); (try clear kN); (try clear kV); (try clear p2); (try clear p8); (try clear q8); obtain ⟨dC, cJ, rfl, rfl, HA, HK2, f3, cS, aA, HB⟩ := hrel
    cases gk with
    | zero => exact absurd HA.out (by simp [spec_l05Burn.l1])
    | succ k2 =>
     have H := HA.out; clear HA; simp only [spec_l05Burn.l1] at H; by_cases c18 : cJ ≥ 0; rotate_left
     ·rw [if_neg c18] at H; have iW : decide (0 ≤ cJ) = false := decide_eq_false c18; clear c18; by_cases c37 : dC < 0
      ·rw [if_pos c37] at H; have uX := decide_eq_true c37; clear c37; obtain rfl := Option.some.inj H; go_wp2; go_ret; exact ⟨_, zz7, zz23, zz0⟩
      rw [if_neg c37] at H; have uX := decide_eq_false c37; clear c37; by_cases c38 : 0 ≤ dC; rotate_left
      ·rw [if_neg c38] at H; exact absurd H (by simp)
      rw [if_pos c38] at H; have DJ := decide_eq_true c38; clear c38; by_cases c39 : dC < (bD.length : Int); rotate_left
      ·rw [if_neg c39] at H; exact absurd H (by simp)
      rw [if_pos c39] at H; have uW := decide_eq_true c39; (try (have mR := uW; first | rw [fX] at mR | rw [← fX] at mR)); clear c39; obtain ⟨bW, hy_⟩ : ∃ y_ : List Bool, y_ = (bD.set (dC : Int).toNat true) := ⟨_, rfl⟩; (replace H : (if b9.length < 17592186044416 then (spec_l05Burn.l0 k2 l1 (b9 ++ [dC]) bW aD aC) else (none)) = some r := zzY); have f2 := zK_ hy_; clear hy_; by_cases c41 : b9.length < 17592186044416; rotate_left
      ·rw [if_neg c41] at H; exact absurd H (by simp)
      rw [if_pos c41] at H; have vQ := zK_ c41; clear c41; obtain ⟨pG, hy_⟩ : ∃ y_ : List Int, y_ = (b9 ++ [dC]) := ⟨_, rfl⟩; (replace H : (spec_l05Burn.l0 k2 l1 pG bW aD aC) = some r := zzY); have qV := zK_ hy_; clear hy_; have H' := zK_ H; clear H; have p40 : 0 ≤ (dC : Int) := of_decide_eq_true zz4; have q40 : (dC : Int) < ((bD.length : Int) : Int) := of_decide_eq_true zz4; obtain ⟨yF, zW⟩ := Kd.R_celln false cS.out (dC : Int) p40 q40; replace p40 := eq_true p40; replace q40 := eq_true q40; have tJ := Kd.R_putg cS.out (dC : Int) true; (go_wp2_with (first | ((with_reducible refine gate_store (t := 4) (p := 63) rfl ?_); refine store_event (t := 4) (p := 63) (v := ?vo_w43) (w1 := (wr.setCell ⟨go8, (dC : Int).toNat, none⟩ (.bool true))) ?hg ?ho ?hn ?hr ?_; (case ho => rfl); (case hg => rfl); (case hn => rfl); (case hr => exact zz9); intro w43 hw; have hg : wr.grownBy w43 (some go8) := (by rw [hw]; exact tJ.2); have hp_ : Kd.R Kd.bool 4 w43 w.heap.size (fun _ => True) (.slice (some ⟨go8, 0, none⟩) bD.length co8) bW := (by rw [hw, f2.out]; exact tJ.1); clear tJ; have n_ := zA4 (Kd.R_over' (v := (.slice (some ⟨go8, 0, none⟩) bD.length co8)) zz23 (Kd.R_typed cS.out) (by decide) hg) hp_ (blk_grown (g := aE) (o := .cells #[.int .i64 aD, .slice aH aC.length aG] 25 (0, 0)) zz2 hg (Kd.R_ne cS.out aA.out (by decide))) (by rw [hw]; exact below_set (HB.out) tR.out : Below w.heap.size w w43); clear f3 cS aA HB; obtain ⟨f3, cS, aA, HB⟩ := n_; clear hg hw hp_) | ((with_reducible refine gate_builtin (b := .append) (xs := #[.tmp 64, .tmp 66]) rfl ?_); at_builtin; refine Kd.R_append (Kd.int .i64) (w0 := w) w.heap.size rfl (.tmp 64) (.tmp 66) 26 3 (.int .i64 0) 8 rfl Try.underlying26 info3 rfl (by decide) (by omega) u7 b9 dC [.int .i64 dC] (fun _ => True) (fun _ => False) rfl rfl ?aP (fun _ hk => hk.elim) ?aF ?aO ?aB ?aS ?aL ?_; (case aP => exact rfl); (case aB => exact zz0); (case aF => exact (fun _ _ => trivial)); (case aO => exact zz23); (case aS => exact (below_size zz0)); (case aL => have := vQ.out; omega); intro v111 w44 ho hb hg hat; rw [← qV.out] at ho; have n_ := zA4 (Kd.R_over' (by (with_reducible repeat (first | apply Kd.R_alloc | apply Kd.R_drewN | apply Kd.R_drew)); exact cS.out) (Kd.R_typed zz23) (by decide) hg) (blk_grown (g := aE) (o := .cells #[.int .i64 aD, .slice aH aC.length aG] 25 (0, 0)) zz2 hg (Kd.R_ne f3.out aA.out (by decide))) hb ho; clear cS aA HB f3; obtain ⟨cS, aA, HB, q9⟩ := n_; clear ho hb hg hat))); (try simp only [← fX]); go_roundg k2; (case measure => have := HK1.out; have := HK2.out; omega); case rel => exact ⟨(pG), (bW), H', ⟨zz53⟩, ⟨by (try simp only [fX]); (with_reducible repeat (first | apply Kd.R_alloc | apply Kd.R_drewN | apply Kd.R_drew)); exact q9.out⟩, ⟨zz27⟩, ⟨zz25⟩, ⟨zz0⟩⟩
     rw [if_pos c18] at H; have iW : decide (0 ≤ cJ) = true := decide_eq_true c18; clear c18; have H' := zK_ H; clear H; go_wp2; (go_loopg [11, 12] k2 (fun kq v11 v12 w' => ∃ (jJ : Int) (fE : Int), v11 = .int .i64 jJ ∧ v12 = .int .i64 fE ∧ Aside0 (spec_l05Burn.l2 kq l1 b9 bD dC cJ jJ fE aD aC = some r) ∧ Aside0 (kq ≤ k2) ∧ Aside0 (Kd.R (Kd.int .i64) 3 w' w.heap.size (fun _ => True) u7 b9) ∧ Aside0 (Kd.R Kd.bool 4 w' w.heap.size (fun _ => True) (.slice (some ⟨go8, 0, none⟩) bD.length co8) bD) ∧ Aside0 (w'.heap[aE]? = some (.cells #[.int .i64 aD, (.slice aH aC.length aG)] 25 (0, 0))) ∧ Aside0 (Below w.heap.size w w'))); case atStart => exact ⟨(0), (0), zz5, zz5, H', ⟨Nat.le_refl _⟩, ⟨zz33⟩, ⟨zz27⟩, ⟨zz25⟩, ⟨zz0⟩⟩
     case round =>
      clear H'; (try clear c1); (try clear p2); (try clear c4); (try clear dI); (try clear j8); (try clear c5); (try clear dS); (try clear mA); (try clear c6); (try clear eS); (try clear p6); (try clear c7); (try clear d4); (try clear p8); (try clear q8); (try clear hx8); (try clear hf8); (try clear c9); (try clear c18); (try clear iW); (try clear fT); (try clear fS); (try clear kU); (try clear kT); (try clear fR); (try clear fQ); (try clear kO); (try clear kN); (try clear kV); (try clear p2); (try clear p6); (try clear p8); (try clear q8); obtain ⟨jJ, fE, rfl, rfl, HA, HK3, f3, cS, aA, HB⟩ := hrel
      cases gk with
      | zero => exact absurd HA.out (by simp [spec_l05Burn.l2])
      | succ k3 =>
       have H := HA.out; clear HA; simp only [spec_l05Burn.l2] at H; by_cases c19 : fE < aD
       ·rw [if_pos c19] at H; have mX := decide_eq_true c19; clear c19; by_cases c20 : 0 ≤ fE; rotate_left
        ·rw [if_neg c20] at H; exact absurd H (by simp)
        rw [if_pos c20] at H; have sB := decide_eq_true c20; clear c20; by_cases c21 : fE < (bD.length : Int); rotate_left
        ·rw [if_neg c21] at H; exact absurd H (by simp)
        rw [if_pos c21] at H; have kC := decide_eq_true c21; (try (have mW := kC; first | rw [fX] at mW | rw [← fX] at mW)); clear c21; obtain ⟨bq22, hbq22⟩ : ∃ b_ : Bool, b_ = (rdOf false bD fE) := ⟨_, rfl⟩; (replace H : (if bq22 = true then ((spec_Multiplicity.f k3 aD aC cJ fE).bind fun o9 => (spec_l05Burn.l2 k3 l1 b9 bD dC cJ (wrap64 (jJ + o9)) (wrap64 (fE + 1)) aD aC)) else (spec_l05Burn.l2 k3 l1 b9 bD dC cJ jJ (wrap64 (fE + 1)) aD aC)) = some r := by rw [← hbq22] at H; exact H); have Nbq22 := zK_ hbq22; clear hbq22; by_cases c23 : bq22 = true; rotate_left
        ·replace c23 := Bool.eq_false_iff.mpr c23; subst c23; rw [if_neg (show ¬ (false = true) by decide)] at H; have H' := zK_ H; clear H; have rU := zC20 aA; have rT := zC21 aA; have rM := blk_frozen aA.out 0; have rL := blk_frozen aA.out 1; have p113 : 0 ≤ (fE : Int) := of_decide_eq_true zz4; have q113 : fE < (bD.length : Int) := of_decide_eq_true zz4; obtain ⟨lF, e113, dW⟩ := Kd.at_bool (Kd.R_reads' cS.out).2.2 fE p113 q113; (try rw [← Nbq22.out] at dW); obtain rfl : (⟨go8, 0, none⟩ : Addr) = lF := (by injection e113); (first | simp only [add_plain] at dW | simp only [add_at] at dW | simp only [Addr.add, Nat.zero_add] at dW | skip); replace p113 := eq_true p113; replace q113 := eq_true q113; go_wp2; go_roundg k3; (case measure => have := HK1.out; have := HK2.out; have := HK3.out; omega); case rel => exact ⟨(jJ), (wrap64 (fE + 1)), zz5, zz5, H', ⟨by have := HK1.out; have := HK2.out; have := HK3.out; omega⟩, ⟨zz33⟩, ⟨zz27⟩, ⟨zz25⟩, ⟨zz0⟩⟩
        subst c23; rw [if_pos rfl] at H; obtain ⟨o9, A240, H⟩ := zO_ H; (try dsimp only at H); have A24 := zK_ A240; clear A240; have H' := zK_ H; clear H; have l5 := zC20 aA; have l4 := zC21 aA; have lW := blk_frozen aA.out 0; have lV := blk_frozen aA.out 1; have p113 : 0 ≤ (fE : Int) := of_decide_eq_true zz4; have q113 : fE < (bD.length : Int) := of_decide_eq_true zz4; obtain ⟨lF, e113, dW⟩ := Kd.at_bool (Kd.R_reads' cS.out).2.2 fE p113 q113; (try rw [← Nbq22.out] at dW); obtain rfl : (⟨go8, 0, none⟩ : Addr) = lF := (by injection e113); (first | simp only [add_plain] at dW | simp only [add_at] at dW | simp only [Addr.add, Nat.zero_add] at dW | skip); replace p113 := eq_true p113; replace q113 := eq_true q113; (go_wp2_with (first | ((with_reducible refine gate_callee (f := 104) rfl ?_); refine goesL_ (some 42) rfl rfl Try.func104 (by kernel_rfl) rfl #[.agg #[.int .i64 aD, .slice aH aC.length aG], .int .i64 cJ, .int .i64 fE] rfl zz3 ?_; (with_reducible refine (spec_Multiplicity.calls k3 aD _ _ aC cJ fE o9 _ ?side1 ?side2 A24.out).mono ?_); (case side1 => exact zz6); (case side2 => exact bE.out); rintro e w26 ⟨rfl, hb⟩; refine ⟨_, rfl, ?_⟩; have n_ := zA4 (Kd.R_below zz23 hb) (Kd.R_below (by (with_reducible repeat (first | apply Kd.R_alloc | apply Kd.R_drewN | apply Kd.R_drew)); exact cS.out) hb) (blk_below (g := aE) (o := .cells #[.int .i64 aD, .slice aH aC.length aG] 25 (0, 0)) zz2 hb) (below_step zz0 hb); clear f3 cS aA HB; obtain ⟨f3, cS, aA, HB⟩ := n_; clear hb))); go_roundg k3; (case measure => have := HK1.out; have := HK2.out; have := HK3.out; omega); case rel => exact ⟨(wrap64 (jJ + o9)), (wrap64 (fE + 1)), zz5, zz5, H', ⟨by have := HK1.out; have := HK2.out; have := HK3.out; omega⟩, ⟨zz33⟩, ⟨zz27⟩, ⟨zz25⟩, ⟨zz0⟩⟩
       rw [if_neg c19] at H; have mX := decide_eq_false c19; clear c19; by_cases c28 : 0 ≤ cJ; rotate_left
       ·rw [if_neg c28] at H; exact absurd H (by simp)
       rw [if_pos c28] at H; have qP := decide_eq_true c28; clear c28; by_cases c29 : cJ < (bD.length : Int); rotate_left
       ·rw [if_neg c29] at H; exact absurd H (by simp)
       rw [if_pos c29] at H; have qO := decide_eq_true c29; (try (have mT := qO; first | rw [fX] at mT | rw [← fX] at mT)); clear c29; obtain ⟨bq30, hbq30⟩ : ∃ b_ : Bool, b_ = (rdOf false bD cJ) := ⟨_, rfl⟩; (replace H : (if bq30 = true then (spec_l05Burn.l1 k3 l1 b9 bD dC (wrap64 (cJ - 1)) aD aC) else (if cJ < (l1.length : Int) then (if (rd l1 cJ) < jJ then (spec_l05Burn.l1 k3 l1 b9 bD cJ (wrap64 (cJ - 1)) aD aC) else (spec_l05Burn.l1 k3 l1 b9 bD dC (wrap64 (cJ - 1)) aD aC)) else (none))) = some r := by rw [← hbq30] at H; exact H); have Nbq30 := zK_ hbq30; clear hbq30; by_cases c31 : bq30 = true
       ·subst c31; rw [if_pos rfl] at H; have H' := zK_ H; clear H; have rS := zC20 aA; have rR := zC21 aA; have rK := blk_frozen aA.out 0; have rJ := blk_frozen aA.out 1; have p115 : 0 ≤ (cJ : Int) := of_decide_eq_true zz4; have q115 : cJ < (bD.length : Int) := of_decide_eq_true zz4; obtain ⟨m5, e115, d7⟩ := Kd.at_bool (Kd.R_reads' cS.out).2.2 cJ p115 q115; (try rw [← Nbq30.out] at d7); obtain rfl : (⟨go8, 0, none⟩ : Addr) = m5 := (by injection e115); (first | simp only [add_plain] at d7 | simp only [add_at] at d7 | simp only [Addr.add, Nat.zero_add] at d7 | skip); replace p115 := eq_true p115; replace q115 := eq_true q115; go_wp2; go_roundg k3; (case measure => have := HK1.out; have := HK2.out; have := HK3.out; omega); case rel => exact ⟨(dC), (wrap64 (cJ - 1)), zz5, zz5, H', ⟨by have := HK1.out; have := HK2.out; have := HK3.out; omega⟩, ⟨zz33⟩, ⟨zz27⟩, ⟨zz25⟩, ⟨zz0⟩⟩
       replace c31 := Bool.eq_false_iff.mpr c31; subst c31; rw [if_neg (show ¬ (false = true) by decide)] at H; by_cases c33 : cJ < (l1.length : Int); rotate_left
       ·rw [if_neg c33] at H; exact absurd H (by simp)
       rw [if_pos c33] at H; have uZ := decide_eq_true c33; (try (have mS := uZ; first | rw [fX] at mS | rw [← fX] at mS)); clear c33; by_cases c34 : (rd l1 cJ) < jJ
       ·rw [if_pos c34] at H; have uY := decide_eq_true c34; clear c34; have H' := zK_ H; clear H; have jR := zC20 aA; have jQ := zC21 aA; have jL := blk_frozen aA.out 0; have jK := blk_frozen aA.out 1; have p115 : 0 ≤ (cJ : Int) := of_decide_eq_true zz4; have q115 : cJ < (bD.length : Int) := of_decide_eq_true zz4; obtain ⟨m5, e115, d7⟩ := Kd.at_bool (Kd.R_reads' cS.out).2.2 cJ p115 q115; (try rw [← Nbq30.out] at d7); obtain rfl : (⟨go8, 0, none⟩ : Addr) = m5 := (by injection e115); (first | simp only [add_plain] at d7 | simp only [add_at] at d7 | simp only [Addr.add, Nat.zero_add] at d7 | skip); replace p115 := eq_true p115; replace q115 := eq_true q115; have p116 : 0 ≤ (cJ : Int) := of_decide_eq_true zz4; have q116 : cJ < (l1.length : Int) := of_decide_eq_true zz4; obtain ⟨vM, e116, iL⟩ := Kd.at_int HR1.out cJ p116 q116; cases e116; replace iL := (HB.out.cell (World.block_lt_of_cell? w _ iL)).trans iL; replace p116 := eq_true p116; replace q116 := eq_true q116; go_wp2; go_roundg k3; (case measure => have := HK1.out; have := HK2.out; have := HK3.out; omega); case rel => exact ⟨(cJ), (wrap64 (cJ - 1)), zz5, zz5, H', ⟨by have := HK1.out; have := HK2.out; have := HK3.out; omega⟩, ⟨zz33⟩, ⟨zz27⟩, ⟨zz25⟩, ⟨zz0⟩⟩
       rw [if_neg c34] at H; have uY := decide_eq_false c34; clear c34; have H' := zK_ H; clear H; have xZ := zC20 aA; have xY := zC21 aA; have xD := blk_frozen aA.out 0; have xC := blk_frozen aA.out 1; have p115 : 0 ≤ (cJ : Int) := of_decide_eq_true zz4; have q115 : cJ < (bD.length : Int) := of_decide_eq_true zz4; obtain ⟨m5, e115, d7⟩ := Kd.at_bool (Kd.R_reads' cS.out).2.2 cJ p115 q115; (try rw [← Nbq30.out] at d7); obtain rfl : (⟨go8, 0, none⟩ : Addr) = m5 := (by injection e115); (first | simp only [add_plain] at d7 | simp only [add_at] at d7 | simp only [Addr.add, Nat.zero_add] at d7 | skip); replace p115 := eq_true p115; replace q115 := eq_true q115; have p116 : 0 ≤ (cJ : Int) := of_decide_eq_true zz4; have q116 : cJ < (l1.length : Int) := of_decide_eq_true zz4; obtain ⟨vM, e116, iL⟩ := Kd.at_int HR1.out cJ p116 q116; cases e116; replace iL := (HB.out.cell (World.block_lt_of_cell? w _ iL)).trans iL; replace p116 := eq_true p116; replace q116 := eq_true q116; go_wp2; go_roundg k3; (case measure => have := HK1.out; have := HK2.out; have := HK3.out; omega); case rel => exact ⟨(dC), (wrap64 (cJ - 1)), zz5, zz5, H', ⟨by have := HK1.out; have := HK2.out; have := HK3.out; omega⟩, ⟨zz33⟩, ⟨zz27⟩, ⟨zz25⟩, ⟨zz0⟩⟩
end Go.Proofs.Ytnbljcgdgblgoaa.P
end

section
namespace Go.Proofs.Ytnbljcgdgblgoaa.Cf
set_option linter.unusedVariables false
set_option linter.unusedSimpArgs false
open Go.RowKit Go.Proofs.YtnbljcgdgblgoaaW.PrintWords
def extB (m : Nat) (d : List Int) : List (List Int) := (List.range m).map fun t : Nat => d ++ [(t : Int)]
theorem extB_zero (d : List Int) : extB 0 d = [] := rfl
theorem extB_succ (m : Nat) (d : List Int) : extB (m + 1) d = extB m d ++ [d ++ [(m : Int)]] := by
 unfold extB
 rw [List.range_succ, List.map_append]
 rfl
theorem extB_len (m : Nat) (d : List Int) : (extB m d).length = m := by unfold extB; simp
def boxL (c : Nat → Nat) : Nat → List (List Int)
 | 0 => [[]]
 | v + 1 => (boxL c v).flatMap (extB (c v))
def outB (m : Nat) (L : List (List Int)) (i : Nat) : List (List Int) := (L.take i).flatMap (extB m)
theorem outB_succ (m : Nat) {L : List (List Int)} {i : Nat} {x : List Int} (h : L[i]? = some x) : outB m L (i + 1) = outB m L i ++ extB m x := by
 unfold outB
 rw [List.take_add_one, h, List.flatMap_append]
 simp
theorem outB_all (c : Nat → Nat) (v : Nat) : outB (c v) (boxL c v) (boxL c v).length = boxL c (v + 1) := by
 unfold outB
 rw [List.take_length]
 rfl
theorem flatB_len (m : Nat) : ∀ L : List (List Int), (L.flatMap (extB m)).length = L.length * m
 | [] => by simp
 | x :: L => by
  rw [List.flatMap_cons, List.length_append, extB_len, flatB_len m L, List.length_cons, Nat.add_mul, Nat.one_mul, Nat.add_comm]
theorem outB_len (m : Nat) (L : List (List Int)) (i : Nat) : (outB m L i).length ≤ L.length * m := by
 unfold outB
 rw [flatB_len, List.length_take]
 exact Nat.mul_le_mul_right _ (Nat.min_le_right _ _)
theorem boxL_len {c : Nat → Nat} {b : Nat} : ∀ {v : Nat}, (∀ u, u < v → c u ≤ b) → (boxL c v).length ≤ b ^ v
 | 0, _ => Nat.le_refl _
 | v + 1, h => by
  show ((boxL c v).flatMap (extB (c v))).length ≤ _
  rw [flatB_len, Nat.pow_succ]
  exact Nat.mul_le_mul (boxL_len fun u hu => h u (by omega)) (h v (by omega))
theorem boxL_row {c : Nat → Nat} : ∀ {v : Nat} {x : List Int}, x ∈ boxL c v → x.length = v ∧ ∀ (j : Nat) (h : j < x.length), 0 ≤ x[j] ∧ x[j] < (c j : Int)
 | 0, x, h => by
  rw [boxL, List.mem_singleton] at h
  subst h
  exact ⟨rfl, fun j h => absurd h (by simp)⟩
 | v + 1, x, h => by
  rw [boxL, List.mem_flatMap] at h
  obtain ⟨d, hd, hx⟩ := h
  obtain ⟨h1, h2⟩ := boxL_row hd
  unfold extB at hx
  obtain ⟨t, ht, rfl⟩ := List.mem_map.1 hx
  rw [List.mem_range] at ht
  refine ⟨by simp [h1], fun j hj => ?_⟩
  by_cases e : j < d.length
  ·rw [List.getElem_append_left e]
   exact h2 j e
  ·rw [List.length_append, List.length_singleton] at hj
   obtain rfl : j = d.length := by omega
   rw [List.getElem_append_right (Nat.le_refl _)]
   simp only [Nat.sub_self, List.getElem_singleton]
   rw [h1]
   omega
def dfsB (c : Nat → Nat) : Nat → Nat → List Int → List (List Int)
 | 0, _, s => [s]
 | r + 1, v, s => (extB (c v) s).flatMap (dfsB c r (v + 1))
theorem flatB_one {α : Type} : ∀ L : List α, (L.flatMap fun t => [t]) = L
 | [] => rfl
 | a :: L => by rw [List.flatMap_cons, flatB_one L]; rfl
theorem dfs_ext (c : Nat → Nat) : ∀ (r v : Nat) (s : List Int), (dfsB c r v s).flatMap (extB (c (v + r))) = dfsB c (r + 1) v s
 | 0, v, s => by
  show ([s] : List (List Int)).flatMap (extB (c v)) = (extB (c v) s).flatMap (fun t => [t])
  rw [flatB_one, List.flatMap_cons, List.flatMap_nil, List.append_nil]
 | r + 1, v, s => by
  show ((extB (c v) s).flatMap (dfsB c r (v + 1))).flatMap (extB (c (v + (r + 1)))) = (extB (c v) s).flatMap (dfsB c (r + 1) (v + 1))
  rw [List.flatMap_assoc]
  congr 1
  funext t
  rw [show v + (r + 1) = v + 1 + r by omega]
  exact dfs_ext c r (v + 1) t
theorem dfs_box (c : Nat → Nat) : ∀ n, dfsB c n 0 [] = boxL c n
 | 0 => rfl
 | n + 1 => by
  rw [boxL, ← dfs_box c n, ← dfs_ext c n 0 [], Nat.zero_add]
def dfsJ (c : Nat → Nat) (r v : Nat) (s : List Int) (j : Nat) : List (List Int) := (extB j s).flatMap (dfsB c r (v + 1))
theorem dfsJ_zero (c : Nat → Nat) (r v : Nat) (s : List Int) : dfsJ c r v s 0 = [] := rfl
theorem dfsJ_succ (c : Nat → Nat) (r v : Nat) (s : List Int) (j : Nat) : dfsJ c r v s (j + 1) = dfsJ c r v s j ++ dfsB c r (v + 1) (s ++ [(j : Int)]) := by
 unfold dfsJ
 rw [extB_succ, List.flatMap_append, List.flatMap_cons, List.flatMap_nil, List.append_nil]
theorem dfsJ_all (c : Nat → Nat) (r v : Nat) (s : List Int) : dfsJ c r v s (c v) = dfsB c (r + 1) v s := rfl
theorem dfsJ_mono (c : Nat → Nat) (r v : Nat) (s : List Int) (j : Nat) : ∀ d, (dfsJ c r v s j).length ≤ (dfsJ c r v s (j + d)).length
 | 0 => Nat.le_refl _
 | d + 1 => by
  refine Nat.le_trans (dfsJ_mono c r v s j d) ?_
  rw [← Nat.add_assoc, dfsJ_succ, List.length_append]
  exact Nat.le_add_right _ _
theorem dfsJ_len (c : Nat → Nat) (r v : Nat) (s : List Int) {j : Nat} (hj : j < c v) : (dfsJ c r v s j).length + (dfsB c r (v + 1) (s ++ [(j : Int)])).length ≤ (dfsB c (r + 1) v s).length := by
 have h := dfsJ_mono c r v s (j + 1) (c v - (j + 1))
 rw [show j + 1 + (c v - (j + 1)) = c v by omega, dfsJ_all, dfsJ_succ, List.length_append] at h
 exact h
theorem extB_mem {m : Nat} {d : List Int} {j : Nat} (h : j < m) : d ++ [(j : Int)] ∈ extB m d := by
 unfold extB
 exact List.mem_map.2 ⟨j, List.mem_range.2 h, rfl⟩
theorem dfs_sub (c : Nat → Nat) (r v : Nat) (s : List Int) {j : Nat} (hj : j < c v) {t : List Int} (ht : t ∈ dfsB c r (v + 1) (s ++ [(j : Int)])) : t ∈ dfsB c (r + 1) v s := by
 show t ∈ (extB (c v) s).flatMap (dfsB c r (v + 1))
 exact List.mem_flatMap.2 ⟨_, extB_mem hj, ht⟩
end Go.Proofs.Ytnbljcgdgblgoaa.Cf
end

section
namespace Go.Proofs.Ytnbljcgdgblgoaa.P
open Go.RowKit Go.Proofs.YtnbljcgdgblgoaaW.PrintWords Go.Proofs.YtnbljcgdgblgoaaW.PrintLast Go.Proofs.YtnbljcgdgblgoaaW.PrintMore
attribute [local go_sem] max2_int min2_int max_two min_two max_three min_three max_four min_four
set_option linter.unusedVariables false
set_option linter.unusedSimpArgs false
def spec_l11All.T3 : Bool × List (List Nat × List Nat) := (true, [([], []), ([], []), ([], []), ([0, 1, 2], [0, 1, 2]), ([3], [3]), ([], []), ([5], [5]), ([4, 6], [4, 6])])
def spec_l11All.B3 : List Nat := [0, 0, 0, 7, 15, 0, 32, 127]
theorem spec_l11All.tab3 : rtab .any (opsOf Try.f58 3) = spec_l11All.T3 := by kernel_rfl
theorem spec_l11All.bits3 : waitsOk spec_l11All.T3.2 spec_l11All.B3 = true := by kernel_rfl
def spec_l11All.T12 : Bool × List (List Nat × List Nat) := (true, [([], []), ([], []), ([], []), ([], []), ([2, 3], [2, 3]), ([], []), ([5], [5]), ([4, 6, 4], [4, 6]), ([], []), ([0, 1, 7, 8, 7], [0, 1, 7, 8]), ([9, 9, 0, 1, 2, 3, 4, 5, 6, 7, 8, 9], [8, 9])])
def spec_l11All.B12 : List Nat := [0, 0, 0, 0, 12, 0, 32, 124, 0, 511, 1023]
theorem spec_l11All.tab12 : rtab .any (opsOf Try.f58 12) = spec_l11All.T12 := by kernel_rfl
theorem spec_l11All.bits12 : waitsOk spec_l11All.T12.2 spec_l11All.B12 = true := by kernel_rfl
def spec_l11All.cnt (k : Nat) (a0 : Int) (es : List S57) (q : Int) (v : Nat) : Nat := if (v : Int) = q then 1 else (mx 1 ((spec_Valence.f k a0 es (v : Int)).getD 0)).toNat
def spec_l11All.pr (k : Nat) (a0 : Int) (es : List S57) (q : Int) (x : List Int) : Bool := match spec_l05Burn.f k a0 es x q with | some r => decide ((r.length : Int) = a0) | none => false
abbrev spec_l11All.ok0 (k : Nat) (a0 : Int) (es : List S57) (q : Int) : Prop := (0 ≤ a0 ∧ a0 ≤ 6) ∧ ∀ v, v < a0.toNat → (spec_Valence.f k a0 es (v : Int)).isSome = true ∧ 0 ≤ (spec_Valence.f k a0 es (v : Int)).getD 0 ∧ (spec_Valence.f k a0 es (v : Int)).getD 0 ≤ 24
abbrev spec_l11All.ok1 (k : Nat) (a0 : Int) (es : List S57) (q : Int) : Prop := ∀ x ∈ Cf.dfsB (spec_l11All.cnt k a0 es q) a0.toNat 0 [], (spec_l05Burn.f k a0 es x q).isSome = true
def spec_l11All.f (k : Nat) (a0 : Int) (es : List S57) (q : Int) : Option (List (List Int)) := if spec_l11All.ok0 k a0 es q ∧ spec_l11All.ok1 k a0 es q then some ((Cf.dfsB (spec_l11All.cnt k a0 es q) a0.toNat 0 []).filter fun x => spec_l11All.pr k a0 es q x) else none
theorem spec_l11All.val_up (k : Nat) {a0 : Int} {es : List S57} {v : Int} (h : (spec_Valence.f k a0 es v).isSome = true) : spec_Valence.f (k + 1) a0 es v = spec_Valence.f k a0 es v := by
 obtain ⟨b, hb⟩ := Option.isSome_iff_exists.1 h; rw [hb, spec_Valence.mono _ _ _ k _ hb]
theorem spec_l11All.burn_up (k : Nat) {a0 q : Int} {es : List S57} {x : List Int} (h : (spec_l05Burn.f k a0 es x q).isSome = true) : spec_l05Burn.f (k + 1) a0 es x q = spec_l05Burn.f k a0 es x q := by
 obtain ⟨b, hb⟩ := Option.isSome_iff_exists.1 h; rw [hb, spec_l05Burn.mono _ _ _ _ k _ hb]
theorem spec_l11All.box_congr {c d : Nat → Nat} : ∀ {n : Nat}, (∀ v, v < n → c v = d v) → Cf.boxL c n = Cf.boxL d n
 | 0, _ => rfl
 | n + 1, h => by rw [Cf.boxL, Cf.boxL, spec_l11All.box_congr fun v hv => h v (by omega), h n (by omega)]
theorem spec_l11All.mono : ∀ a0 a1 a2 k, LeO (spec_l11All.f k a0 a1 a2) (spec_l11All.f (k + 1) a0 a1 a2) := by
 intro a0 es q k r h; unfold spec_l11All.f at h ⊢; (split at h); (case isFalse => cases h); rename_i hc; (have e1 : Cf.dfsB (spec_l11All.cnt (k + 1) a0 es q) a0.toNat 0 [] = Cf.dfsB (spec_l11All.cnt k a0 es q) a0.toNat 0 [] := by rw [Cf.dfs_box, Cf.dfs_box]; exact spec_l11All.box_congr fun v hv => by unfold spec_l11All.cnt; rw [spec_l11All.val_up k (hc.1.2 v hv).1]); have h0 : spec_l11All.ok0 (k + 1) a0 es q := ⟨hc.1.1, fun v hv => by rw [spec_l11All.val_up k (hc.1.2 v hv).1]; exact hc.1.2 v hv⟩; (have h1 : spec_l11All.ok1 (k + 1) a0 es q := by unfold spec_l11All.ok1; rw [e1]; exact fun x hx => by rw [spec_l11All.burn_up k (hc.2 x hx)]; exact hc.2 x hx); rw [if_pos ⟨h0, h1⟩, ← h, e1]; (congr 1); (refine List.filter_congr fun x hx => ?_); unfold spec_l11All.pr; rw [spec_l11All.burn_up k (hc.2 x hx)]
theorem spec_l11All.pick (k n : Nat) (q : Int) (A0 : Option Addr) (c0 : Nat) (es : List S57) (w0 : World) (hn : n ≤ 6) (hE : Kd.C k57 w0 A0 es.length es) (hc0 : es.length ≤ c0) (hV : ∀ v, v < n → (spec_Valence.f k (n : Int) es (v : Int)).isSome = true ∧ 0 ≤ (spec_Valence.f k (n : Int) es (v : Int)).getD 0 ∧ (spec_Valence.f k (n : Int) es (v : Int)).getD 0 ≤ 24) :
  ∀ (r : Nat) (s : List Int) (okP ok : Nat → Prop) (As : Option Addr) (cs : Nat) (u : Value) (out : List (List Int)) (w : World), s.length + r = n → (∀ t ∈ Cf.dfsB (spec_l11All.cnt k (n : Int) es q) r s.length s, (spec_l05Burn.f k (n : Int) es t q).isSome = true) → Kd.R (Kd.int .i64) 3 w w0.heap.size okP (.slice As s.length cs) s → (∀ k_, okP k_ → ¬ ok k_) → (∀ k_, w.heap.size ≤ k_ → ok k_) → Kd.S (Kd.slice 3 (Kd.int .i64)) 26 w w0.heap.size ok u out → Below w0.heap.size w0 w → out.length + (Cf.dfsB (spec_l11All.cnt k (n : Int) es q) r s.length s).length ≤ 200000000 →
  Calls Try.prog 58 #[.agg #[.int .i64 (n : Int), .slice A0 es.length c0], .int .i64 q, .slice As s.length cs, u] w fun e w' => (∃ v, e = .returned v ∧ Kd.S (Kd.slice 3 (Kd.int .i64)) 26 w' w0.heap.size (fun k_ => ok k_ ∨ okP k_) v (out ++ (Cf.dfsB (spec_l11All.cnt k (n : Int) es q) r s.length s).filter (spec_l11All.pr k (n : Int) es q))) ∧ Below w0.heap.size w0 w' ∧ Kept w w' ok := by
 have hu25 := Try.underlying25; have HE := Aside0.mk hE; have HC := Aside0.mk hc0; have HN := Aside0.mk hn; have HV := Aside0.mk hV; clear hE hc0 hn hV; intro r
 induction r with
 | zero =>
  intro s okP ok As cs u out w hlen hans hP hdis hfr hS hB hL; have HLEN := Aside0.mk hlen; have HANS := Aside0.mk hans; have HP := Aside0.mk hP; have HDIS := Aside0.mk hdis; have HFR := Aside0.mk hfr; have HS := Aside0.mk hS; have HB := Aside0.mk hB; have HL := Aside0.mk hL; (have hsb : (s.length : Int) ≤ 6 := by have := HN.out; omega); (have hsn : s.length = n := by have := HLEN.out; omega); have c0_ : ((s.length : Int) == (n : Int)) = true := beq_iff_eq.2 (by omega); obtain ⟨b, hb0⟩ := Option.isSome_iff_exists.1 (HANS.out s (by simp [Cf.dfsB])); have HBR := Aside0.mk hb0; have HPL := Aside0.mk (show (s.length : Int) = (n : Int) from by omega); (have hdf : (Cf.dfsB (spec_l11All.cnt k (n : Int) es q) 0 s.length s).filter (spec_l11All.pr k (n : Int) es q) = if (spec_l11All.pr k (n : Int) es q) s = true then [s] else [] := by show [s].filter _ = _; rw [List.filter_cons, List.filter_nil]); rw [hdf]; (have hpr : (spec_l11All.pr k (n : Int) es q) s = decide ((b.length : Int) = (n : Int)) := by unfold spec_l11All.pr; rw [hb0]); rw [hpr]; clear hlen hans hP hdis hfr hS hB hL hb0 hdf hpr hsn; go_enter Try.func58, Try.ntmps58; (go_wp2_with (first | ((with_reducible refine gate_dst (N := 4) rfl ?_); refine box_event ?hg (N := 4) ?hd (cs := #[.int .i64 (n : Int), .slice A0 es.length c0]) (t := 25) ?hr ?_; (case hd => rfl); (case hg => rfl); (case hr => exact zz9); intro gb hg w1 hbox hb; have HGB := Aside0.mk hg; have BG1 := Aside0.mk hbox; have HB1 := Aside0.mk hb; have hz0 : w1.cell? ⟨gb, 0, none⟩ = some (.int .i64 (n : Int)) := (blk_cell BG1.out 0).trans rfl; have hz1 : w1.cell? ⟨gb, 1, none⟩ = some (.slice A0 es.length c0) := (blk_cell BG1.out 1).trans rfl; clear hg hbox hb))); refine start_ (n := 8) (S := fun w' => w'.cell? ⟨gb, 0, none⟩ = some (.int .i64 (n : Int)) ∧ w'.cell? ⟨gb, 1, none⟩ = some (.slice A0 es.length c0)) (ds := []) (zM 8 0) (by kernel_rfl) rfl rfl ⟨hz0, hz1⟩ (fun hHeld => ?_); refine with_tabW spec_l11All.tab3 spec_l11All.bits3 (fun HT_ HW_ => ?_); have hdr : Below w1.heap.size w1 w1.drew := below_drew (Below.refl _ _); have BG2 := Aside0.mk (blk_below BG1.out hdr); have HB2 := Aside0.mk (below_step HB1.out hdr); generalize w1.drew = wd at BG2 HB2 hHeld ⊢; clear hdr hz0 hz1 BG1 HB1; refine zQ 1 19 (zM 8 2) ?_
  refine zQ 2 20 (zM 8 6) ?_
  refine zQ 5 23 (zM 8 38) ?_
  refine take_ (i := 0) (N := some 18) (v := ?_) (a' := ?_) (zM 8 39) rfl rfl (take_ofW HT_.out HW_.out (by kernel_rfl)) (fun _ _ _ h => h) (Or.inl ⟨by rfl, ?_⟩) hHeld ?_ ?_; rotate_left
  ·rintro w' ⟨s0, s1⟩; exact zzT
  rotate_left
  ·exact zzS
  refine take_ (i := 6) (N := some 24) (v := ?_) (a' := ?_) (zM 8 103) rfl rfl (take_ofW HT_.out HW_.out (by kernel_rfl)) (fun _ _ _ h => h) (Or.inl ⟨by rfl, ?_⟩) hHeld ?_ ?_; rotate_left
  ·rintro w' ⟨s0, s1⟩; exact zzT
  rotate_left
  ·exact zzS
  refine one_ (i := 3) (N := some 21) (zM 8 111) rfl rfl (one_of HT_.out (by kernel_rfl)) (by decide) (fun K hK => ?_); refine goes_ Try.func95 (by kernel_rfl) rfl #[.agg #[.int .i64 (n : Int), .slice A0 es.length c0], .slice As s.length cs, .int .i64 q] (by rfl) rfl rfl zz34 ?_; have hC2 := Kd.R_reads' (Kd.R_below HP.out HB2.out); refine (spec_l05Burn.calls k (n : Int) _ _ es _ _ s q b _ (Kd.C_below (Kd.C_below HE.out HB.out) HB2.out) HC.out hC2.2.2 hC2.2.1 HBR.out).mono ?_; rintro e w3 ⟨v3, rfl, hR, hb⟩; obtain ⟨Ab, cb, eb⟩ := Kd.R_slice hR; subst eb; have BG3 := Aside0.mk (blk_below BG2.out hb); have HB3 := Aside0.mk (below_step HB2.out hb); clear hR hb hC2 BG2 HB2; refine ⟨_, rfl, ?_⟩; refine hK.out _ _ ⟨(blk_cell BG3.out 0).trans rfl, (blk_cell BG3.out 1).trans rfl⟩ (fun hHeld => ?_); clear hK K; refine norm_ (a' := ?_) ?_ ?_; rotate_left
  ·show Act.put _ (some 21) _ = _; exact zzS
  refine zQ 4 22 (zM 8 127) ?_
  by_cases hbn : (b.length : Int) = (n : Int)
  ·(skip); have hbe : ((b.length : Int) == (n : Int)) = true := beq_iff_eq.2 hbn; refine zQ 7 25 (zM 8 255) ?_
   refine done_ (done_of HT_.out (by kernel_rfl)) ?_; (go_wp2_with (first | ((with_reducible refine gate_builtin (b := .append) (xs := #[.tmp 26, .tmp 28]) rfl ?_); at_builtin; refine Kd.S_append (Kd.slice 3 (Kd.int .i64)) (w0 := w0) w0.heap.size rfl (.tmp 26) (.tmp 28) 34 26 (.slice none 0 0) 24 rfl Try.underlying34 info26 rfl (by decide) (by omega) u out s [.slice As s.length cs] (fun k_ => ok k_ ∨ okP k_) okP rfl rfl (Kd.M_row (Kd.R_below HP.out HB3.out)) (fun k_ hk => ⟨Or.inr hk, fun e => HDIS.out k_ hk (HS.out.choose_spec.1 k_ e.symm)⟩) (fun k_ hk => Or.inl (HFR.out k_ (Nat.le_trans HB3.out.size hk))) (Kd.S_mono (Kd.S_below HS.out HB3.out) fun k_ hk => ⟨Or.inl hk, fun h => HDIS.out k_ h hk⟩) (below_step HB.out HB3.out) (below_size (below_step HB.out HB3.out)) (by have := HL.out; omega) ?_; intro vE wE ho hb hg hat; have HOE := Aside0.mk ho; have HBE := Aside0.mk hb; have HKE := Aside0.mk (Kept.of_grown hg (Kept.of_below HB3.out ok) (fun k_ e => Or.inl (HS.out.choose_spec.1 k_ e))); clear ho hb hg hat))); go_ret; refine ⟨⟨_, rfl, ?_⟩, HBE.out, HKE.out⟩; (first | rw [if_pos hbn] | rw [decide_eq_true hbn, if_pos rfl] | simp only [hbn, if_true, decide_true]); exact HOE.out
  ·have hbe : ((b.length : Int) == (n : Int)) = false := beq_eq_false_iff_ne.2 hbn; refine zQ 7 25 (zM 8 255) ?_
   refine done_ (done_of HT_.out (by kernel_rfl)) ?_; go_wp2; all_goals (go_ret; refine ⟨⟨_, rfl, ?_⟩, below_step HB.out HB3.out, Kept.of_below HB3.out _⟩; (first | rw [if_neg hbn, List.append_nil] | rw [decide_eq_false hbn, if_neg (by simp), List.append_nil] | rw [List.append_nil] | skip); exact Kd.S_mono (Kd.S_below HS.out HB3.out) fun k_ h => Or.inl h)
 | succ r ih =>
  intro s okP ok As cs u out w hlen hans hP hdis hfr hS hB hL; have HLEN := Aside0.mk hlen; have HANS := Aside0.mk hans; have HP := Aside0.mk hP; have HDIS := Aside0.mk hdis; have HFR := Aside0.mk hfr; have HS := Aside0.mk hS; have HB := Aside0.mk hB; have HL := Aside0.mk hL; (have hsb : (s.length : Int) ≤ 6 := by have := HN.out; omega); have IH := Aside0.mk ih; clear ih; (have hsn : s.length < n := by have := HLEN.out; omega); have c0_ : ((s.length : Int) == (n : Int)) = false := beq_eq_false_iff_ne.2 (by omega); obtain ⟨hm0, hm1, hm2⟩ := HV.out s.length hsn; obtain ⟨m, hm⟩ := Option.isSome_iff_exists.1 hm0; (have hcn : spec_l11All.cnt k (n : Int) es q s.length = if (s.length : Int) = q then 1 else (mx 1 m).toNat := by unfold spec_l11All.cnt; rw [hm]; rfl); rw [hm] at hm1 hm2; simp only [Option.getD_some] at hm1 hm2; have HM := Aside0.mk hm; obtain ⟨mo, hmo⟩ : ∃ x : Int, (if (1 : Int) < m then m else 1) = x := ⟨_, rfl⟩; have HMO := Aside0.mk (show mx 1 m = mo ∧ 1 ≤ mo ∧ mo ≤ 24 from ⟨hmo, by rw [← hmo]; split <;> omega, by rw [← hmo]; split <;> omega⟩); have hP := HP.out; clear hlen hans hP hdis hfr hS hB hL hm hm0 hm1 hm2 hsn; go_enter Try.func58, Try.ntmps58; (go_wp2_with (first | ((with_reducible refine gate_dst (N := 4) rfl ?_); refine box_event ?hg (N := 4) ?hd (cs := #[.int .i64 (n : Int), .slice A0 es.length c0]) (t := 25) ?hr ?_; (case hd => rfl); (case hg => rfl); (case hr => exact zz9); intro gb hg w1 hbox hb; have HGB := Aside0.mk hg; have BG1 := Aside0.mk hbox; have HB1 := Aside0.mk hb; have hz0 : w1.cell? ⟨gb, 0, none⟩ = some (.int .i64 (n : Int)) := (blk_cell BG1.out 0).trans rfl; have hz1 : w1.cell? ⟨gb, 1, none⟩ = some (.slice A0 es.length c0) := (blk_cell BG1.out 1).trans rfl; clear hg hbox hb))); refine (spec_Valence.calls k (n : Int) _ _ es (s.length : Int) m _ (Kd.C_below (Kd.C_below HE.out HB.out) HB1.out) HC.out HM.out).mono ?_; rintro e w2 ⟨rfl, hb⟩; have BG2 := Aside0.mk (blk_below BG1.out hb); have HB2 := Aside0.mk (below_step HB1.out hb); have HGW := Aside0.mk (show w.heap.size ≤ gb ∧ gb < w2.heap.size from ⟨by have := HGB.out; omega, blk_lt BG2.out⟩); clear hb hz0 hz1 BG1 HB1; by_cases hvq : (s.length : Int) = q
  ·have c4_ : ((s.length : Int) == q) = true := beq_iff_eq.2 hvq; have HCN := Aside0.mk (show spec_l11All.cnt k (n : Int) es q s.length = 1 from by rw [hcn, if_pos hvq]); (have hcn2 : (spec_l11All.cnt k (n : Int) es q s.length : Int) = 1 := by rw [HCN.out]; rfl); have HCN2 := Aside0.mk hcn2; have HCNB := Aside0.mk (show spec_l11All.cnt k (n : Int) es q s.length ≤ 24 from by have := HCN2.out; have := HMO.out; omega); clear hcn hcn2 hvq; (try go_wp2); (go_loopw [3, 11] (fun v3 v11 wr => ∃ j : Nat, v11 = .int .i64 (j : Int) ∧ Aside0 (j ≤ spec_l11All.cnt k (n : Int) es q s.length) ∧ Aside0 (Below w0.heap.size w0 wr ∧ wr.heap[gb]? = some (.cells #[.int .i64 (n : Int), .slice A0 es.length c0] 25 (0, 0))) ∧ Aside0 (Kd.S (Kd.slice 3 (Kd.int .i64)) 26 wr w0.heap.size (fun k_ => ok k_ ∧ k_ ≠ gb) v3 (out ++ (Cf.dfsJ (spec_l11All.cnt k (n : Int) es q) r s.length s j).filter (spec_l11All.pr k (n : Int) es q))) ∧ Aside0 (Kept w wr ok ∧ w2.heap.size ≤ wr.heap.size)) (fun _ v _ => spec_l11All.cnt k (n : Int) es q s.length - (intOf v).toNat)); case atStart => exact ⟨0, rfl, ⟨Nat.zero_le _⟩, ⟨below_step HB.out HB2.out, BG2.out⟩, ⟨by rw [Cf.dfsJ_zero, List.filter_nil, List.append_nil]; exact Kd.S_mono (Kd.S_below (Kd.S_bound HS.out) HB2.out) fun k_ hk => ⟨hk.1, by have := hk.2.2.1; have := HGW.out.1; omega⟩⟩, ⟨Kept.of_below HB2.out _, Nat.le_refl _⟩⟩
   case round =>
    obtain ⟨j, rfl, HJ, HBG, HSr, HKr⟩ := hrel; (have hjb : (j : Int) ≤ 24 := by have := HJ.out; have := HCNB.out; omega); by_cases hj : j < spec_l11All.cnt k (n : Int) es q s.length
    ·(obtain rfl : j = 0 := by have := HCN.out; omega); have HJN := Aside0.mk hj; clear hj; (try go_wp2); refine start_ (n := 11) (S := fun w' => w'.cell? ⟨gb, 0, none⟩ = some (.int .i64 (n : Int)) ∧ w'.cell? ⟨gb, 1, none⟩ = some (.slice A0 es.length c0)) (ds := []) (zM 11 0) (by kernel_rfl) rfl rfl ⟨(blk_cell HBG.out.2 0).trans rfl, (blk_cell HBG.out.2 1).trans rfl⟩ (fun hHeld => ?_); refine with_tabW spec_l11All.tab12 spec_l11All.bits12 (fun HT_ HW_ => ?_); have hdr : Below wr.heap.size wr wr.drew := below_drew (Below.refl _ _); have BGd := Aside0.mk (blk_below HBG.out.2 hdr); have HBd := Aside0.mk (below_step HBG.out.1 hdr); have HSd := Aside0.mk (Kd.S_below HSr.out hdr); have HKd := Aside0.mk (HKr.out.1.below hdr); have HZd := Aside0.mk (show w2.heap.size ≤ wr.drew.heap.size from HKr.out.2); generalize wr.drew = wd at BGd HBd HSd HKd HZd hHeld ⊢; have HPd := Aside0.mk (Kd.R_kept HP.out HKd.out fun k_ hk => HDIS.out k_ hk); clear hdr HBG HSr HKr; refine zQ 1 44 (zM 11 2) ?_
     refine zQ 3 46 (zM 11 10) ?_
     refine zQ 5 48 (zM 11 42) ?_
     refine zQ 8 51 (zM 11 298) ?_
     refine take_ (i := 0) (N := some 43) (v := ?_) (a' := ?_) (zM 11 299) rfl rfl (take_ofW HT_.out HW_.out (by kernel_rfl)) (fun _ _ _ h => h) (Or.inl ⟨by rfl, ?_⟩) hHeld ?_ ?_; rotate_left
     ·rintro w' ⟨s0, s1⟩; exact zzT
     rotate_left
     ·exact zzS
     refine two_ (i := 2) (j := 6) (Ni := some 45) (Nj := some 49) (zM 11 303) (zM 11 363) rfl rfl rfl rfl (two_of HT_.out (by kernel_rfl)) (by decide) (by decide) (fun K hK => ?_) (fun K hK => ?_)
     ·(skip); refine Kd.R_lit_step (w0 := wd) (Kd.int .i64) wd.heap.size 3 ?hg (N := 45) ?hd (xs := ([] : List Int)) (inner := []) (ok := fun _ => True) (okp := fun _ => True) ?hr ?hp (fun _ hk => hk) trivial (Below.refl _ _) (Nat.le_refl _) (by simp) ?_; (case hd => rfl); (case hg => rfl); (case hr => exact zz9); (case hp => exact (Reps.none _ _)); intro vA wA hoA hbA hg_ hnew_; have HOA := Aside0.mk hoA; have HBx := Aside0.mk hbA; clear hoA hbA hg_ hnew_; refine hK.out _ _ ⟨(blk_cell (blk_below BGd.out HBx.out) 0).trans rfl, (blk_cell (blk_below BGd.out HBx.out) 1).trans rfl⟩ (fun hHeld => ?_); clear hK K; refine norm_ (a' := ?_) ?_ ?_; rotate_left
      ·show Act.put _ (some 45) _ = _; exact zzS
      refine two_ (i := 4) (j := 6) (Ni := some 47) (Nj := some 49) (zM 11 319) (zM 11 367) rfl rfl rfl rfl (two_of HT_.out (by kernel_rfl)) (by decide) (by decide) (fun K hK => ?_) (fun K hK => ?_)
      ·(skip); have HRp := Aside0.mk (Kd.R_reads' (Kd.R_below HPd.out HBx.out)); refine Kd.R_append_rows_step (Kd.int .i64) (w0 := wd) wd.heap.size (by rfl) (.tmp 45) (.tmp 46) 26 3 (.int .i64 0) 8 rfl Try.underlying26 info3 rfl (by decide) (by omega) vA ([] : List Int) s _ _ _ (fun _ => True) (fun _ => False) rfl rfl HOA.out HRp.out.2.2 (fun _ _ h => h) (fun _ h => h.elim) (fun _ _ => trivial) HBx.out (below_size HBx.out) (by have := hsb; simp only [List.length_nil]; omega) ?_; intro vB wB hoB hbB hg_ hat_; rw [List.nil_append] at hoB; have HOB := Aside0.mk hoB; have HBx := Aside0.mk hbB; clear hoB hbB hg_ hat_; refine hK.out _ _ ⟨(blk_cell (blk_below BGd.out HBx.out) 0).trans rfl, (blk_cell (blk_below BGd.out HBx.out) 1).trans rfl⟩ (fun hHeld => ?_); clear hK K; refine norm_ (a' := ?_) ?_ ?_; rotate_left
       ·show Act.put _ (some 47) _ = _; exact zzS
       refine one_ (i := 6) (N := some 49) (zM 11 383) rfl rfl (one_of HT_.out (by kernel_rfl)) (by decide) (fun K hK => ?_); refine Kd.R_lit_step (w0 := wd) (Kd.int .i64) wd.heap.size 3 ?hg (N := 49) ?hd (xs := [(0 : Int)]) (inner := [.int .i64 (0 : Int)]) (ok := fun _ => True) (okp := fun _ => True) ?hr ?hp (fun _ hk => hk) trivial HBx.out (below_size HBx.out) (by simp) ?_; (case hd => rfl); (case hg => rfl); (case hr => exact zz9); (case hp => exact Kd.reps_scalar _); intro vX wX hoX hbX hg_ hnew_; have HOB := Aside0.mk (Kd.R_grown (ok := fun _ => True) HOB.out hg_ (fun k_ _ => by simp)); have HCx := Aside0.mk (Kd.R_tight rfl hoX); have HBx := Aside0.mk hbX; clear hoX hbX hg_ hnew_; refine hK.out _ _ ⟨(blk_cell (blk_below BGd.out HBx.out) 0).trans rfl, (blk_cell (blk_below BGd.out HBx.out) 1).trans rfl⟩ (fun hHeld => ?_); clear hK K; refine norm_ (a' := ?_) ?_ ?_; rotate_left
       ·show Act.put _ (some 49) _ = _; exact zzS
       obtain ⟨AX, cX, eX⟩ := Kd.R_slice HCx.out; subst eX; refine one_ (i := 7) (N := some 50) (zM 11 511) rfl rfl (one_of HT_.out (by kernel_rfl)) (by decide) (fun K hK => ?_); refine Kd.R_append_rows_step (Kd.int .i64) (w0 := wd) wd.heap.size (by rfl) (.tmp 47) (.tmp 49) 26 3 (.int .i64 0) 8 rfl Try.underlying26 info3 rfl (by decide) (by omega) vB s [(0 : Int)] _ _ _ (fun _ => True) (fun _ => False) rfl rfl HOB.out (Kd.R_reads' HCx.out).2.2 (fun _ _ h => h) (fun _ h => h.elim) (fun _ _ => trivial) HBx.out (below_size HBx.out) (by have := hsb; simp only [List.length_cons, List.length_nil]; omega) ?_; intro vD wD hoD hbD hg_ hat_; have HBx := Aside0.mk hbD; have hlD : (s ++ [(0 : Int)]).length = s.length + 1 := List.length_append; obtain ⟨g, cD, eD, hg1, hg2, _⟩ := Kd.R_form hoD (by omega); subst eD; have HOD := Aside0.mk hoD; have HGD := Aside0.mk (show wd.heap.size ≤ g ∧ g < wD.heap.size from ⟨hg1, hg2⟩); clear hoD hbD hg_ hat_ hg1 hg2; refine hK.out _ _ ⟨(blk_cell (blk_below BGd.out HBx.out) 0).trans rfl, (blk_cell (blk_below BGd.out HBx.out) 1).trans rfl⟩ (fun hHeld => ?_); clear hK K; refine norm_ (a' := ?_) ?_ ?_; rotate_left
       ·show Act.put _ (some 50) _ = _; exact zzS
       refine one_ (i := 9) (N := some 52) (zM 11 1023) rfl rfl (one_of HT_.out (by kernel_rfl)) (by decide) (fun K hK => ?_); refine goes_ Try.func58 (by kernel_rfl) rfl #[.agg #[.int .i64 (n : Int), .slice A0 es.length c0], .int .i64 q, .slice (some ⟨g, 0, none⟩) (s ++ [(0 : Int)]).length cD, u3] (by rfl) rfl rfl zz34 ?_; have hTD := Kd.R_lower (Kd.R_tight rfl HOD.out) (below_size HBd.out); have h_ := IH.out (s ++ [(0 : Int)]) (fun k_ => some k_ = (Value.slice (some ⟨g, 0, none⟩) (s ++ [(0 : Int)]).length cD).ownBlock) (fun k_ => (ok k_ ∧ k_ ≠ gb) ∧ k_ ≠ g) (some ⟨g, 0, none⟩) cD u3 (out ++ (Cf.dfsJ (spec_l11All.cnt k (n : Int) es q) r s.length s 0).filter (spec_l11All.pr k (n : Int) es q)) wD ?i1_1 ?i2_1 hTD ?i4_1 ?i5_1 ?i6_1 (below_step HBd.out HBx.out) ?i8_1; (case i1_1 => rw [hlD]; have := HLEN.out; omega); (case i2_1 => rw [hlD]; exact fun t ht => HANS.out t (Cf.dfs_sub _ _ _ _ HJN.out ht)); (case i4_1 => exact fun k_ hk h => h.2 (by simpa [Value.ownBlock] using hk)); (case i5_1 => exact fun k_ hk => ⟨⟨HFR.out k_ (by have := HKd.out.1; have := HBx.out.size; omega), by have := HGW.out.2; have := HZd.out; have := HBx.out.size; omega⟩, by have := HGD.out; omega⟩); (case i6_1 => exact Kd.S_mono (Kd.S_below (Kd.S_bound HSd.out) HBx.out) fun k_ hk => ⟨hk.1, by have := hk.2.2.1; have := HGD.out; omega⟩); (case i8_1 => rw [hlD, List.length_append]; have h1 : (Cf.dfsJ (spec_l11All.cnt k (n : Int) es q) r s.length s 0).length + (Cf.dfsB (spec_l11All.cnt k (n : Int) es q) r (s.length + 1) (s ++ [(0 : Int)])).length ≤ (Cf.dfsB (spec_l11All.cnt k (n : Int) es q) (r + 1) s.length s).length := Cf.dfsJ_len (spec_l11All.cnt k (n : Int) es q) r s.length s HJN.out; have h2 := List.length_filter_le (spec_l11All.pr k (n : Int) es q) (Cf.dfsJ (spec_l11All.cnt k (n : Int) es q) r s.length s 0); have h3 := HL.out; omega); rw [hlD] at h_; (try rw [hlD]); refine h_.mono ?_; rintro e w5 ⟨⟨v5, rfl, hS5⟩, hB5, hK5⟩; have BG5 := Aside0.mk (blk_kept (blk_below BGd.out HBx.out) hK5 (fun h => h.1.2 rfl)); have HS5 := Aside0.mk hS5; have HB5 := Aside0.mk hB5; have HK5 := Aside0.mk (show Kept w w5 ok ∧ w2.heap.size ≤ w5.heap.size from ⟨(HKd.out.below HBx.out).then_ hK5 (fun k_ h => Or.inl h.1.1), by have := hK5.1; have := HBx.out.size; have := HZd.out; omega⟩); clear hS5 hB5 hK5 h_ hTD; refine ⟨_, rfl, ?_⟩; refine hK.out _ _ ⟨(blk_cell BG5.out 0).trans rfl, (blk_cell BG5.out 1).trans rfl⟩ (fun hHeld => ?_); clear hK K; refine norm_ (a' := ?_) ?_ ?_; rotate_left
       ·show Act.put _ (some 52) _ = _; exact zzS
       refine zQ 10 3 (zM 11 2047) ?_
       refine done_ (done_of HT_.out (by kernel_rfl)) ?_; (try go_wp2); go_roundw
       case rel =>
        refine ⟨0 + 1, by go_num, ⟨HJN.out⟩, ⟨HB5.out, BG5.out⟩, ⟨?_⟩, HK5⟩; rw [Cf.dfsJ_succ, List.filter_append, ← List.append_assoc]; (refine Kd.S_mono HS5.out fun k_ h => ?_); rcases h with h | h
        ·exact h.1
        ·(have e : k_ = g := by simpa [Value.ownBlock] using h); exact ⟨HFR.out k_ (by have := HKd.out.1; have := HGD.out; omega), by have := HGW.out.2; have := HZd.out; have := HGD.out; omega⟩
       case measure =>
        have := HJN.out; first | (simp [intOf]; done) | (simp [intOf]; omega)
      ·have HOA0 := HOA; refine Kd.R_lit_step (w0 := wd) (Kd.int .i64) wd.heap.size 3 ?hg (N := 49) ?hd (xs := [(0 : Int)]) (inner := [.int .i64 (0 : Int)]) (ok := fun _ => True) (okp := fun _ => True) ?hr ?hp (fun _ hk => hk) trivial HBx.out (below_size HBx.out) (by simp) ?_; (case hd => rfl); (case hg => rfl); (case hr => exact zz9); (case hp => exact Kd.reps_scalar _); intro vX wX hoX hbX hg_ hnew_; have HOA := Aside0.mk (Kd.R_grown (ok := fun _ => True) HOA.out hg_ (fun k_ _ => by simp)); have HCx := Aside0.mk (Kd.R_tight rfl hoX); have HBx := Aside0.mk hbX; have HNE := Aside0.mk (show vX.ownBlock ≠ vA.ownBlock from by obtain ⟨b_, hb1, hb2⟩ := hnew_; intro e; have := Kd.R_lt HOA0.out b_ (e.symm.trans hb1); omega); clear hoX hbX hg_ hnew_; refine hK.out _ _ ⟨(blk_cell (blk_below BGd.out HBx.out) 0).trans rfl, (blk_cell (blk_below BGd.out HBx.out) 1).trans rfl⟩ (fun hHeld => ?_); clear hK K; refine norm_ (a' := ?_) ?_ ?_; rotate_left
       ·show Act.put _ (some 49) _ = _; exact zzS
       refine one_ (i := 4) (N := some 47) (zM 11 383) rfl rfl (one_of HT_.out (by kernel_rfl)) (by decide) (fun K hK => ?_); have HRp := Aside0.mk (Kd.R_reads' (Kd.R_below HPd.out HBx.out)); refine Kd.R_append_rows_step (Kd.int .i64) (w0 := wd) wd.heap.size (by rfl) (.tmp 45) (.tmp 46) 26 3 (.int .i64 0) 8 rfl Try.underlying26 info3 rfl (by decide) (by omega) vA ([] : List Int) s _ _ _ (fun _ => True) (fun _ => False) rfl rfl HOA.out HRp.out.2.2 (fun _ _ h => h) (fun _ h => h.elim) (fun _ _ => trivial) HBx.out (below_size HBx.out) (by have := hsb; simp only [List.length_nil]; omega) ?_; intro vB wB hoB hbB hg_ hat_; rw [List.nil_append] at hoB; have HCx := Aside0.mk (Kd.R_step HCx.out fun k_ hk hlt => hg_.block k_ hlt (by rw [hk]; exact fun e => HNE.out e)); have HOB := Aside0.mk hoB; have HBx := Aside0.mk hbB; clear hoB hbB hg_ hat_; refine hK.out _ _ ⟨(blk_cell (blk_below BGd.out HBx.out) 0).trans rfl, (blk_cell (blk_below BGd.out HBx.out) 1).trans rfl⟩ (fun hHeld => ?_); clear hK K; refine norm_ (a' := ?_) ?_ ?_; rotate_left
       ·show Act.put _ (some 47) _ = _; exact zzS
       obtain ⟨AX, cX, eX⟩ := Kd.R_slice HCx.out; subst eX; refine one_ (i := 7) (N := some 50) (zM 11 511) rfl rfl (one_of HT_.out (by kernel_rfl)) (by decide) (fun K hK => ?_); refine Kd.R_append_rows_step (Kd.int .i64) (w0 := wd) wd.heap.size (by rfl) (.tmp 47) (.tmp 49) 26 3 (.int .i64 0) 8 rfl Try.underlying26 info3 rfl (by decide) (by omega) vB s [(0 : Int)] _ _ _ (fun _ => True) (fun _ => False) rfl rfl HOB.out (Kd.R_reads' HCx.out).2.2 (fun _ _ h => h) (fun _ h => h.elim) (fun _ _ => trivial) HBx.out (below_size HBx.out) (by have := hsb; simp only [List.length_cons, List.length_nil]; omega) ?_; intro vD wD hoD hbD hg_ hat_; have HBx := Aside0.mk hbD; have hlD : (s ++ [(0 : Int)]).length = s.length + 1 := List.length_append; obtain ⟨g, cD, eD, hg1, hg2, _⟩ := Kd.R_form hoD (by omega); subst eD; have HOD := Aside0.mk hoD; have HGD := Aside0.mk (show wd.heap.size ≤ g ∧ g < wD.heap.size from ⟨hg1, hg2⟩); clear hoD hbD hg_ hat_ hg1 hg2; refine hK.out _ _ ⟨(blk_cell (blk_below BGd.out HBx.out) 0).trans rfl, (blk_cell (blk_below BGd.out HBx.out) 1).trans rfl⟩ (fun hHeld => ?_); clear hK K; refine norm_ (a' := ?_) ?_ ?_; rotate_left
       ·show Act.put _ (some 50) _ = _; exact zzS
       refine one_ (i := 9) (N := some 52) (zM 11 1023) rfl rfl (one_of HT_.out (by kernel_rfl)) (by decide) (fun K hK => ?_); refine goes_ Try.func58 (by kernel_rfl) rfl #[.agg #[.int .i64 (n : Int), .slice A0 es.length c0], .int .i64 q, .slice (some ⟨g, 0, none⟩) (s ++ [(0 : Int)]).length cD, u3] (by rfl) rfl rfl zz34 ?_; have hTD := Kd.R_lower (Kd.R_tight rfl HOD.out) (below_size HBd.out); have h_ := IH.out (s ++ [(0 : Int)]) (fun k_ => some k_ = (Value.slice (some ⟨g, 0, none⟩) (s ++ [(0 : Int)]).length cD).ownBlock) (fun k_ => (ok k_ ∧ k_ ≠ gb) ∧ k_ ≠ g) (some ⟨g, 0, none⟩) cD u3 (out ++ (Cf.dfsJ (spec_l11All.cnt k (n : Int) es q) r s.length s 0).filter (spec_l11All.pr k (n : Int) es q)) wD ?i1_2 ?i2_2 hTD ?i4_2 ?i5_2 ?i6_2 (below_step HBd.out HBx.out) ?i8_2; (case i1_2 => rw [hlD]; have := HLEN.out; omega); (case i2_2 => rw [hlD]; exact fun t ht => HANS.out t (Cf.dfs_sub _ _ _ _ HJN.out ht)); (case i4_2 => exact fun k_ hk h => h.2 (by simpa [Value.ownBlock] using hk)); (case i5_2 => exact fun k_ hk => ⟨⟨HFR.out k_ (by have := HKd.out.1; have := HBx.out.size; omega), by have := HGW.out.2; have := HZd.out; have := HBx.out.size; omega⟩, by have := HGD.out; omega⟩); (case i6_2 => exact Kd.S_mono (Kd.S_below (Kd.S_bound HSd.out) HBx.out) fun k_ hk => ⟨hk.1, by have := hk.2.2.1; have := HGD.out; omega⟩); (case i8_2 => rw [hlD, List.length_append]; have h1 : (Cf.dfsJ (spec_l11All.cnt k (n : Int) es q) r s.length s 0).length + (Cf.dfsB (spec_l11All.cnt k (n : Int) es q) r (s.length + 1) (s ++ [(0 : Int)])).length ≤ (Cf.dfsB (spec_l11All.cnt k (n : Int) es q) (r + 1) s.length s).length := Cf.dfsJ_len (spec_l11All.cnt k (n : Int) es q) r s.length s HJN.out; have h2 := List.length_filter_le (spec_l11All.pr k (n : Int) es q) (Cf.dfsJ (spec_l11All.cnt k (n : Int) es q) r s.length s 0); have h3 := HL.out; omega); rw [hlD] at h_; (try rw [hlD]); refine h_.mono ?_; rintro e w5 ⟨⟨v5, rfl, hS5⟩, hB5, hK5⟩; have BG5 := Aside0.mk (blk_kept (blk_below BGd.out HBx.out) hK5 (fun h => h.1.2 rfl)); have HS5 := Aside0.mk hS5; have HB5 := Aside0.mk hB5; have HK5 := Aside0.mk (show Kept w w5 ok ∧ w2.heap.size ≤ w5.heap.size from ⟨(HKd.out.below HBx.out).then_ hK5 (fun k_ h => Or.inl h.1.1), by have := hK5.1; have := HBx.out.size; have := HZd.out; omega⟩); clear hS5 hB5 hK5 h_ hTD; refine ⟨_, rfl, ?_⟩; refine hK.out _ _ ⟨(blk_cell BG5.out 0).trans rfl, (blk_cell BG5.out 1).trans rfl⟩ (fun hHeld => ?_); clear hK K; refine norm_ (a' := ?_) ?_ ?_; rotate_left
       ·show Act.put _ (some 52) _ = _; exact zzS
       refine zQ 10 3 (zM 11 2047) ?_
       refine done_ (done_of HT_.out (by kernel_rfl)) ?_; (try go_wp2); go_roundw
       case rel =>
        refine ⟨0 + 1, by go_num, ⟨HJN.out⟩, ⟨HB5.out, BG5.out⟩, ⟨?_⟩, HK5⟩; rw [Cf.dfsJ_succ, List.filter_append, ← List.append_assoc]; (refine Kd.S_mono HS5.out fun k_ h => ?_); rcases h with h | h
        ·exact h.1
        ·(have e : k_ = g := by simpa [Value.ownBlock] using h); exact ⟨HFR.out k_ (by have := HKd.out.1; have := HGD.out; omega), by have := HGW.out.2; have := HZd.out; have := HGD.out; omega⟩
       case measure =>
        have := HJN.out; first | (simp [intOf]; done) | (simp [intOf]; omega)
     ·(skip); refine Kd.R_lit_step (w0 := wd) (Kd.int .i64) wd.heap.size 3 ?hg (N := 49) ?hd (xs := [(0 : Int)]) (inner := [.int .i64 (0 : Int)]) (ok := fun _ => True) (okp := fun _ => True) ?hr ?hp (fun _ hk => hk) trivial (Below.refl _ _) (Nat.le_refl _) (by simp) ?_; (case hd => rfl); (case hg => rfl); (case hr => exact zz9); (case hp => exact Kd.reps_scalar _); intro vX wX hoX hbX hg_ hnew_; have HCx := Aside0.mk (Kd.R_tight rfl hoX); have HBx := Aside0.mk hbX; clear hoX hbX hg_ hnew_; refine hK.out _ _ ⟨(blk_cell (blk_below BGd.out HBx.out) 0).trans rfl, (blk_cell (blk_below BGd.out HBx.out) 1).trans rfl⟩ (fun hHeld => ?_); clear hK K; refine norm_ (a' := ?_) ?_ ?_; rotate_left
      ·show Act.put _ (some 49) _ = _; exact zzS
      refine one_ (i := 2) (N := some 45) (zM 11 367) rfl rfl (one_of HT_.out (by kernel_rfl)) (by decide) (fun K hK => ?_); (skip); refine Kd.R_lit_step (w0 := wd) (Kd.int .i64) wd.heap.size 3 ?hg (N := 45) ?hd (xs := ([] : List Int)) (inner := []) (ok := fun _ => True) (okp := fun _ => True) ?hr ?hp (fun _ hk => hk) trivial HBx.out (below_size HBx.out) (by simp) ?_; (case hd => rfl); (case hg => rfl); (case hr => exact zz9); (case hp => exact (Reps.none _ _)); intro vA wA hoA hbA hg_ hnew_; have HNE := Aside0.mk (show vX.ownBlock ≠ vA.ownBlock from by obtain ⟨b_, hb1, hb2⟩ := hnew_; intro e; have := Kd.R_lt HCx.out b_ (e.trans hb1); omega); have HCx := Aside0.mk (Kd.R_grown (ok := fun k_ => some k_ = vX.ownBlock) HCx.out hg_ (fun k_ _ => by simp)); have HOA := Aside0.mk hoA; have HBx := Aside0.mk hbA; clear hoA hbA hg_ hnew_; refine hK.out _ _ ⟨(blk_cell (blk_below BGd.out HBx.out) 0).trans rfl, (blk_cell (blk_below BGd.out HBx.out) 1).trans rfl⟩ (fun hHeld => ?_); clear hK K; refine norm_ (a' := ?_) ?_ ?_; rotate_left
      ·show Act.put _ (some 45) _ = _; exact zzS
      refine one_ (i := 4) (N := some 47) (zM 11 383) rfl rfl (one_of HT_.out (by kernel_rfl)) (by decide) (fun K hK => ?_); have HRp := Aside0.mk (Kd.R_reads' (Kd.R_below HPd.out HBx.out)); refine Kd.R_append_rows_step (Kd.int .i64) (w0 := wd) wd.heap.size (by rfl) (.tmp 45) (.tmp 46) 26 3 (.int .i64 0) 8 rfl Try.underlying26 info3 rfl (by decide) (by omega) vA ([] : List Int) s _ _ _ (fun _ => True) (fun _ => False) rfl rfl HOA.out HRp.out.2.2 (fun _ _ h => h) (fun _ h => h.elim) (fun _ _ => trivial) HBx.out (below_size HBx.out) (by have := hsb; simp only [List.length_nil]; omega) ?_; intro vB wB hoB hbB hg_ hat_; rw [List.nil_append] at hoB; have HCx := Aside0.mk (Kd.R_step HCx.out fun k_ hk hlt => hg_.block k_ hlt (by rw [hk]; exact fun e => HNE.out e)); have HOB := Aside0.mk hoB; have HBx := Aside0.mk hbB; clear hoB hbB hg_ hat_; refine hK.out _ _ ⟨(blk_cell (blk_below BGd.out HBx.out) 0).trans rfl, (blk_cell (blk_below BGd.out HBx.out) 1).trans rfl⟩ (fun hHeld => ?_); clear hK K; refine norm_ (a' := ?_) ?_ ?_; rotate_left
      ·show Act.put _ (some 47) _ = _; exact zzS
      obtain ⟨AX, cX, eX⟩ := Kd.R_slice HCx.out; subst eX; refine one_ (i := 7) (N := some 50) (zM 11 511) rfl rfl (one_of HT_.out (by kernel_rfl)) (by decide) (fun K hK => ?_); refine Kd.R_append_rows_step (Kd.int .i64) (w0 := wd) wd.heap.size (by rfl) (.tmp 47) (.tmp 49) 26 3 (.int .i64 0) 8 rfl Try.underlying26 info3 rfl (by decide) (by omega) vB s [(0 : Int)] _ _ _ (fun _ => True) (fun _ => False) rfl rfl HOB.out (Kd.R_reads' HCx.out).2.2 (fun _ _ h => h) (fun _ h => h.elim) (fun _ _ => trivial) HBx.out (below_size HBx.out) (by have := hsb; simp only [List.length_cons, List.length_nil]; omega) ?_; intro vD wD hoD hbD hg_ hat_; have HBx := Aside0.mk hbD; have hlD : (s ++ [(0 : Int)]).length = s.length + 1 := List.length_append; obtain ⟨g, cD, eD, hg1, hg2, _⟩ := Kd.R_form hoD (by omega); subst eD; have HOD := Aside0.mk hoD; have HGD := Aside0.mk (show wd.heap.size ≤ g ∧ g < wD.heap.size from ⟨hg1, hg2⟩); clear hoD hbD hg_ hat_ hg1 hg2; refine hK.out _ _ ⟨(blk_cell (blk_below BGd.out HBx.out) 0).trans rfl, (blk_cell (blk_below BGd.out HBx.out) 1).trans rfl⟩ (fun hHeld => ?_); clear hK K; refine norm_ (a' := ?_) ?_ ?_; rotate_left
      ·show Act.put _ (some 50) _ = _; exact zzS
      refine one_ (i := 9) (N := some 52) (zM 11 1023) rfl rfl (one_of HT_.out (by kernel_rfl)) (by decide) (fun K hK => ?_); refine goes_ Try.func58 (by kernel_rfl) rfl #[.agg #[.int .i64 (n : Int), .slice A0 es.length c0], .int .i64 q, .slice (some ⟨g, 0, none⟩) (s ++ [(0 : Int)]).length cD, u3] (by rfl) rfl rfl zz34 ?_; have hTD := Kd.R_lower (Kd.R_tight rfl HOD.out) (below_size HBd.out); have h_ := IH.out (s ++ [(0 : Int)]) (fun k_ => some k_ = (Value.slice (some ⟨g, 0, none⟩) (s ++ [(0 : Int)]).length cD).ownBlock) (fun k_ => (ok k_ ∧ k_ ≠ gb) ∧ k_ ≠ g) (some ⟨g, 0, none⟩) cD u3 (out ++ (Cf.dfsJ (spec_l11All.cnt k (n : Int) es q) r s.length s 0).filter (spec_l11All.pr k (n : Int) es q)) wD ?i1_3 ?i2_3 hTD ?i4_3 ?i5_3 ?i6_3 (below_step HBd.out HBx.out) ?i8_3; (case i1_3 => rw [hlD]; have := HLEN.out; omega); (case i2_3 => rw [hlD]; exact fun t ht => HANS.out t (Cf.dfs_sub _ _ _ _ HJN.out ht)); (case i4_3 => exact fun k_ hk h => h.2 (by simpa [Value.ownBlock] using hk)); (case i5_3 => exact fun k_ hk => ⟨⟨HFR.out k_ (by have := HKd.out.1; have := HBx.out.size; omega), by have := HGW.out.2; have := HZd.out; have := HBx.out.size; omega⟩, by have := HGD.out; omega⟩); (case i6_3 => exact Kd.S_mono (Kd.S_below (Kd.S_bound HSd.out) HBx.out) fun k_ hk => ⟨hk.1, by have := hk.2.2.1; have := HGD.out; omega⟩); (case i8_3 => rw [hlD, List.length_append]; have h1 : (Cf.dfsJ (spec_l11All.cnt k (n : Int) es q) r s.length s 0).length + (Cf.dfsB (spec_l11All.cnt k (n : Int) es q) r (s.length + 1) (s ++ [(0 : Int)])).length ≤ (Cf.dfsB (spec_l11All.cnt k (n : Int) es q) (r + 1) s.length s).length := Cf.dfsJ_len (spec_l11All.cnt k (n : Int) es q) r s.length s HJN.out; have h2 := List.length_filter_le (spec_l11All.pr k (n : Int) es q) (Cf.dfsJ (spec_l11All.cnt k (n : Int) es q) r s.length s 0); have h3 := HL.out; omega); rw [hlD] at h_; (try rw [hlD]); refine h_.mono ?_; rintro e w5 ⟨⟨v5, rfl, hS5⟩, hB5, hK5⟩; have BG5 := Aside0.mk (blk_kept (blk_below BGd.out HBx.out) hK5 (fun h => h.1.2 rfl)); have HS5 := Aside0.mk hS5; have HB5 := Aside0.mk hB5; have HK5 := Aside0.mk (show Kept w w5 ok ∧ w2.heap.size ≤ w5.heap.size from ⟨(HKd.out.below HBx.out).then_ hK5 (fun k_ h => Or.inl h.1.1), by have := hK5.1; have := HBx.out.size; have := HZd.out; omega⟩); clear hS5 hB5 hK5 h_ hTD; refine ⟨_, rfl, ?_⟩; refine hK.out _ _ ⟨(blk_cell BG5.out 0).trans rfl, (blk_cell BG5.out 1).trans rfl⟩ (fun hHeld => ?_); clear hK K; refine norm_ (a' := ?_) ?_ ?_; rotate_left
      ·show Act.put _ (some 52) _ = _; exact zzS
      refine zQ 10 3 (zM 11 2047) ?_
      refine done_ (done_of HT_.out (by kernel_rfl)) ?_; (try go_wp2); go_roundw
      case rel =>
       refine ⟨0 + 1, by go_num, ⟨HJN.out⟩, ⟨HB5.out, BG5.out⟩, ⟨?_⟩, HK5⟩; rw [Cf.dfsJ_succ, List.filter_append, ← List.append_assoc]; (refine Kd.S_mono HS5.out fun k_ h => ?_); rcases h with h | h
       ·exact h.1
       ·(have e : k_ = g := by simpa [Value.ownBlock] using h); exact ⟨HFR.out k_ (by have := HKd.out.1; have := HGD.out; omega), by have := HGW.out.2; have := HZd.out; have := HGD.out; omega⟩
      case measure =>
       have := HJN.out; first | (simp [intOf]; done) | (simp [intOf]; omega)
    ·have hj2 := HJ.out; (have hjn : j = spec_l11All.cnt k (n : Int) es q s.length := by have := HJ.out; omega); (obtain rfl : j = 1 := by rw [hjn]; exact HCN.out); have HJE := Aside0.mk hjn; clear hj hjn; go_wp2; go_ret; refine ⟨⟨_, rfl, ?_⟩, HBG.out.1, HKr.out.1⟩; have hS := HSr.out; rw [HJE.out, Cf.dfsJ_all] at hS; exact Kd.S_mono hS fun k_ h => Or.inl h.1
  ·have c4_ : ((s.length : Int) == q) = false := beq_eq_false_iff_ne.2 hvq; have HCN := Aside0.mk (show spec_l11All.cnt k (n : Int) es q s.length = mo.toNat from by rw [hcn, if_neg hvq, HMO.out.1]); (have hcn2 : (spec_l11All.cnt k (n : Int) es q s.length : Int) = mo := by rw [HCN.out]; have := HMO.out; omega); have HCN2 := Aside0.mk hcn2; have HCNB := Aside0.mk (show spec_l11All.cnt k (n : Int) es q s.length ≤ 24 from by have := HCN2.out; have := HMO.out; omega); clear hcn hcn2 hvq; (try go_wp2); (go_loopw [3, 11] (fun v3 v11 wr => ∃ j : Nat, v11 = .int .i64 (j : Int) ∧ Aside0 (j ≤ spec_l11All.cnt k (n : Int) es q s.length) ∧ Aside0 (Below w0.heap.size w0 wr ∧ wr.heap[gb]? = some (.cells #[.int .i64 (n : Int), .slice A0 es.length c0] 25 (0, 0))) ∧ Aside0 (Kd.S (Kd.slice 3 (Kd.int .i64)) 26 wr w0.heap.size (fun k_ => ok k_ ∧ k_ ≠ gb) v3 (out ++ (Cf.dfsJ (spec_l11All.cnt k (n : Int) es q) r s.length s j).filter (spec_l11All.pr k (n : Int) es q))) ∧ Aside0 (Kept w wr ok ∧ w2.heap.size ≤ wr.heap.size)) (fun _ v _ => spec_l11All.cnt k (n : Int) es q s.length - (intOf v).toNat)); case atStart => exact ⟨0, rfl, ⟨Nat.zero_le _⟩, ⟨below_step HB.out HB2.out, BG2.out⟩, ⟨by rw [Cf.dfsJ_zero, List.filter_nil, List.append_nil]; exact Kd.S_mono (Kd.S_below (Kd.S_bound HS.out) HB2.out) fun k_ hk => ⟨hk.1, by have := hk.2.2.1; have := HGW.out.1; omega⟩⟩, ⟨Kept.of_below HB2.out _, Nat.le_refl _⟩⟩
   case round =>
    obtain ⟨j, rfl, HJ, HBG, HSr, HKr⟩ := hrel; (have hjb : (j : Int) ≤ 24 := by have := HJ.out; have := HCNB.out; omega); by_cases hj : j < spec_l11All.cnt k (n : Int) es q s.length
    ·have d0 : decide ((j : Int) < mo) = true := decide_eq_true (by have := HCN2.out; omega); have HJN := Aside0.mk hj; clear hj; (try go_wp2); refine start_ (n := 11) (S := fun w' => w'.cell? ⟨gb, 0, none⟩ = some (.int .i64 (n : Int)) ∧ w'.cell? ⟨gb, 1, none⟩ = some (.slice A0 es.length c0)) (ds := []) (zM 11 0) (by kernel_rfl) rfl rfl ⟨(blk_cell HBG.out.2 0).trans rfl, (blk_cell HBG.out.2 1).trans rfl⟩ (fun hHeld => ?_); refine with_tabW spec_l11All.tab12 spec_l11All.bits12 (fun HT_ HW_ => ?_); have hdr : Below wr.heap.size wr wr.drew := below_drew (Below.refl _ _); have BGd := Aside0.mk (blk_below HBG.out.2 hdr); have HBd := Aside0.mk (below_step HBG.out.1 hdr); have HSd := Aside0.mk (Kd.S_below HSr.out hdr); have HKd := Aside0.mk (HKr.out.1.below hdr); have HZd := Aside0.mk (show w2.heap.size ≤ wr.drew.heap.size from HKr.out.2); generalize wr.drew = wd at BGd HBd HSd HKd HZd hHeld ⊢; have HPd := Aside0.mk (Kd.R_kept HP.out HKd.out fun k_ hk => HDIS.out k_ hk); clear hdr HBG HSr HKr; refine zQ 1 44 (zM 11 2) ?_
     refine zQ 3 46 (zM 11 10) ?_
     refine zQ 5 48 (zM 11 42) ?_
     refine zQ 8 51 (zM 11 298) ?_
     refine take_ (i := 0) (N := some 43) (v := ?_) (a' := ?_) (zM 11 299) rfl rfl (take_ofW HT_.out HW_.out (by kernel_rfl)) (fun _ _ _ h => h) (Or.inl ⟨by rfl, ?_⟩) hHeld ?_ ?_; rotate_left
     ·rintro w' ⟨s0, s1⟩; exact zzT
     rotate_left
     ·exact zzS
     refine two_ (i := 2) (j := 6) (Ni := some 45) (Nj := some 49) (zM 11 303) (zM 11 363) rfl rfl rfl rfl (two_of HT_.out (by kernel_rfl)) (by decide) (by decide) (fun K hK => ?_) (fun K hK => ?_)
     ·(skip); refine Kd.R_lit_step (w0 := wd) (Kd.int .i64) wd.heap.size 3 ?hg (N := 45) ?hd (xs := ([] : List Int)) (inner := []) (ok := fun _ => True) (okp := fun _ => True) ?hr ?hp (fun _ hk => hk) trivial (Below.refl _ _) (Nat.le_refl _) (by simp) ?_; (case hd => rfl); (case hg => rfl); (case hr => exact zz9); (case hp => exact (Reps.none _ _)); intro vA wA hoA hbA hg_ hnew_; have HOA := Aside0.mk hoA; have HBx := Aside0.mk hbA; clear hoA hbA hg_ hnew_; refine hK.out _ _ ⟨(blk_cell (blk_below BGd.out HBx.out) 0).trans rfl, (blk_cell (blk_below BGd.out HBx.out) 1).trans rfl⟩ (fun hHeld => ?_); clear hK K; refine norm_ (a' := ?_) ?_ ?_; rotate_left
      ·show Act.put _ (some 45) _ = _; exact zzS
      refine two_ (i := 4) (j := 6) (Ni := some 47) (Nj := some 49) (zM 11 319) (zM 11 367) rfl rfl rfl rfl (two_of HT_.out (by kernel_rfl)) (by decide) (by decide) (fun K hK => ?_) (fun K hK => ?_)
      ·(skip); have HRp := Aside0.mk (Kd.R_reads' (Kd.R_below HPd.out HBx.out)); refine Kd.R_append_rows_step (Kd.int .i64) (w0 := wd) wd.heap.size (by rfl) (.tmp 45) (.tmp 46) 26 3 (.int .i64 0) 8 rfl Try.underlying26 info3 rfl (by decide) (by omega) vA ([] : List Int) s _ _ _ (fun _ => True) (fun _ => False) rfl rfl HOA.out HRp.out.2.2 (fun _ _ h => h) (fun _ h => h.elim) (fun _ _ => trivial) HBx.out (below_size HBx.out) (by have := hsb; simp only [List.length_nil]; omega) ?_; intro vB wB hoB hbB hg_ hat_; rw [List.nil_append] at hoB; have HOB := Aside0.mk hoB; have HBx := Aside0.mk hbB; clear hoB hbB hg_ hat_; refine hK.out _ _ ⟨(blk_cell (blk_below BGd.out HBx.out) 0).trans rfl, (blk_cell (blk_below BGd.out HBx.out) 1).trans rfl⟩ (fun hHeld => ?_); clear hK K; refine norm_ (a' := ?_) ?_ ?_; rotate_left
       ·show Act.put _ (some 47) _ = _; exact zzS
       refine one_ (i := 6) (N := some 49) (zM 11 383) rfl rfl (one_of HT_.out (by kernel_rfl)) (by decide) (fun K hK => ?_); refine Kd.R_lit_step (w0 := wd) (Kd.int .i64) wd.heap.size 3 ?hg (N := 49) ?hd (xs := [(j : Int)]) (inner := [.int .i64 (j : Int)]) (ok := fun _ => True) (okp := fun _ => True) ?hr ?hp (fun _ hk => hk) trivial HBx.out (below_size HBx.out) (by simp) ?_; (case hd => rfl); (case hg => rfl); (case hr => exact zz9); (case hp => exact Kd.reps_scalar _); intro vX wX hoX hbX hg_ hnew_; have HOB := Aside0.mk (Kd.R_grown (ok := fun _ => True) HOB.out hg_ (fun k_ _ => by simp)); have HCx := Aside0.mk (Kd.R_tight rfl hoX); have HBx := Aside0.mk hbX; clear hoX hbX hg_ hnew_; refine hK.out _ _ ⟨(blk_cell (blk_below BGd.out HBx.out) 0).trans rfl, (blk_cell (blk_below BGd.out HBx.out) 1).trans rfl⟩ (fun hHeld => ?_); clear hK K; refine norm_ (a' := ?_) ?_ ?_; rotate_left
       ·show Act.put _ (some 49) _ = _; exact zzS
       obtain ⟨AX, cX, eX⟩ := Kd.R_slice HCx.out; subst eX; refine one_ (i := 7) (N := some 50) (zM 11 511) rfl rfl (one_of HT_.out (by kernel_rfl)) (by decide) (fun K hK => ?_); refine Kd.R_append_rows_step (Kd.int .i64) (w0 := wd) wd.heap.size (by rfl) (.tmp 47) (.tmp 49) 26 3 (.int .i64 0) 8 rfl Try.underlying26 info3 rfl (by decide) (by omega) vB s [(j : Int)] _ _ _ (fun _ => True) (fun _ => False) rfl rfl HOB.out (Kd.R_reads' HCx.out).2.2 (fun _ _ h => h) (fun _ h => h.elim) (fun _ _ => trivial) HBx.out (below_size HBx.out) (by have := hsb; simp only [List.length_cons, List.length_nil]; omega) ?_; intro vD wD hoD hbD hg_ hat_; have HBx := Aside0.mk hbD; have hlD : (s ++ [(j : Int)]).length = s.length + 1 := List.length_append; obtain ⟨g, cD, eD, hg1, hg2, _⟩ := Kd.R_form hoD (by omega); subst eD; have HOD := Aside0.mk hoD; have HGD := Aside0.mk (show wd.heap.size ≤ g ∧ g < wD.heap.size from ⟨hg1, hg2⟩); clear hoD hbD hg_ hat_ hg1 hg2; refine hK.out _ _ ⟨(blk_cell (blk_below BGd.out HBx.out) 0).trans rfl, (blk_cell (blk_below BGd.out HBx.out) 1).trans rfl⟩ (fun hHeld => ?_); clear hK K; refine norm_ (a' := ?_) ?_ ?_; rotate_left
       ·show Act.put _ (some 50) _ = _; exact zzS
       refine one_ (i := 9) (N := some 52) (zM 11 1023) rfl rfl (one_of HT_.out (by kernel_rfl)) (by decide) (fun K hK => ?_); refine goes_ Try.func58 (by kernel_rfl) rfl #[.agg #[.int .i64 (n : Int), .slice A0 es.length c0], .int .i64 q, .slice (some ⟨g, 0, none⟩) (s ++ [(j : Int)]).length cD, u3] (by rfl) rfl rfl zz34 ?_; have hTD := Kd.R_lower (Kd.R_tight rfl HOD.out) (below_size HBd.out); have h_ := IH.out (s ++ [(j : Int)]) (fun k_ => some k_ = (Value.slice (some ⟨g, 0, none⟩) (s ++ [(j : Int)]).length cD).ownBlock) (fun k_ => (ok k_ ∧ k_ ≠ gb) ∧ k_ ≠ g) (some ⟨g, 0, none⟩) cD u3 (out ++ (Cf.dfsJ (spec_l11All.cnt k (n : Int) es q) r s.length s j).filter (spec_l11All.pr k (n : Int) es q)) wD ?i1_4 ?i2_4 hTD ?i4_4 ?i5_4 ?i6_4 (below_step HBd.out HBx.out) ?i8_4; (case i1_4 => rw [hlD]; have := HLEN.out; omega); (case i2_4 => rw [hlD]; exact fun t ht => HANS.out t (Cf.dfs_sub _ _ _ _ HJN.out ht)); (case i4_4 => exact fun k_ hk h => h.2 (by simpa [Value.ownBlock] using hk)); (case i5_4 => exact fun k_ hk => ⟨⟨HFR.out k_ (by have := HKd.out.1; have := HBx.out.size; omega), by have := HGW.out.2; have := HZd.out; have := HBx.out.size; omega⟩, by have := HGD.out; omega⟩); (case i6_4 => exact Kd.S_mono (Kd.S_below (Kd.S_bound HSd.out) HBx.out) fun k_ hk => ⟨hk.1, by have := hk.2.2.1; have := HGD.out; omega⟩); (case i8_4 => rw [hlD, List.length_append]; have h1 : (Cf.dfsJ (spec_l11All.cnt k (n : Int) es q) r s.length s j).length + (Cf.dfsB (spec_l11All.cnt k (n : Int) es q) r (s.length + 1) (s ++ [(j : Int)])).length ≤ (Cf.dfsB (spec_l11All.cnt k (n : Int) es q) (r + 1) s.length s).length := Cf.dfsJ_len (spec_l11All.cnt k (n : Int) es q) r s.length s HJN.out; have h2 := List.length_filter_le (spec_l11All.pr k (n : Int) es q) (Cf.dfsJ (spec_l11All.cnt k (n : Int) es q) r s.length s j); have h3 := HL.out; omega); rw [hlD] at h_; (try rw [hlD]); refine h_.mono ?_; rintro e w5 ⟨⟨v5, rfl, hS5⟩, hB5, hK5⟩; have BG5 := Aside0.mk (blk_kept (blk_below BGd.out HBx.out) hK5 (fun h => h.1.2 rfl)); have HS5 := Aside0.mk hS5; have HB5 := Aside0.mk hB5; have HK5 := Aside0.mk (show Kept w w5 ok ∧ w2.heap.size ≤ w5.heap.size from ⟨(HKd.out.below HBx.out).then_ hK5 (fun k_ h => Or.inl h.1.1), by have := hK5.1; have := HBx.out.size; have := HZd.out; omega⟩); clear hS5 hB5 hK5 h_ hTD; refine ⟨_, rfl, ?_⟩; refine hK.out _ _ ⟨(blk_cell BG5.out 0).trans rfl, (blk_cell BG5.out 1).trans rfl⟩ (fun hHeld => ?_); clear hK K; refine norm_ (a' := ?_) ?_ ?_; rotate_left
       ·show Act.put _ (some 52) _ = _; exact zzS
       refine zQ 10 3 (zM 11 2047) ?_
       refine done_ (done_of HT_.out (by kernel_rfl)) ?_; (try go_wp2); go_roundw
       case rel =>
        refine ⟨j + 1, by go_num, ⟨HJN.out⟩, ⟨HB5.out, BG5.out⟩, ⟨?_⟩, HK5⟩; rw [Cf.dfsJ_succ, List.filter_append, ← List.append_assoc]; (refine Kd.S_mono HS5.out fun k_ h => ?_); rcases h with h | h
        ·exact h.1
        ·(have e : k_ = g := by simpa [Value.ownBlock] using h); exact ⟨HFR.out k_ (by have := HKd.out.1; have := HGD.out; omega), by have := HGW.out.2; have := HZd.out; have := HGD.out; omega⟩
       case measure =>
        have := HJN.out; first | (simp [intOf]; done) | (simp [intOf]; omega)
      ·have HOA0 := HOA; refine Kd.R_lit_step (w0 := wd) (Kd.int .i64) wd.heap.size 3 ?hg (N := 49) ?hd (xs := [(j : Int)]) (inner := [.int .i64 (j : Int)]) (ok := fun _ => True) (okp := fun _ => True) ?hr ?hp (fun _ hk => hk) trivial HBx.out (below_size HBx.out) (by simp) ?_; (case hd => rfl); (case hg => rfl); (case hr => exact zz9); (case hp => exact Kd.reps_scalar _); intro vX wX hoX hbX hg_ hnew_; have HOA := Aside0.mk (Kd.R_grown (ok := fun _ => True) HOA.out hg_ (fun k_ _ => by simp)); have HCx := Aside0.mk (Kd.R_tight rfl hoX); have HBx := Aside0.mk hbX; have HNE := Aside0.mk (show vX.ownBlock ≠ vA.ownBlock from by obtain ⟨b_, hb1, hb2⟩ := hnew_; intro e; have := Kd.R_lt HOA0.out b_ (e.symm.trans hb1); omega); clear hoX hbX hg_ hnew_; refine hK.out _ _ ⟨(blk_cell (blk_below BGd.out HBx.out) 0).trans rfl, (blk_cell (blk_below BGd.out HBx.out) 1).trans rfl⟩ (fun hHeld => ?_); clear hK K; refine norm_ (a' := ?_) ?_ ?_; rotate_left
       ·show Act.put _ (some 49) _ = _; exact zzS
       refine one_ (i := 4) (N := some 47) (zM 11 383) rfl rfl (one_of HT_.out (by kernel_rfl)) (by decide) (fun K hK => ?_); have HRp := Aside0.mk (Kd.R_reads' (Kd.R_below HPd.out HBx.out)); refine Kd.R_append_rows_step (Kd.int .i64) (w0 := wd) wd.heap.size (by rfl) (.tmp 45) (.tmp 46) 26 3 (.int .i64 0) 8 rfl Try.underlying26 info3 rfl (by decide) (by omega) vA ([] : List Int) s _ _ _ (fun _ => True) (fun _ => False) rfl rfl HOA.out HRp.out.2.2 (fun _ _ h => h) (fun _ h => h.elim) (fun _ _ => trivial) HBx.out (below_size HBx.out) (by have := hsb; simp only [List.length_nil]; omega) ?_; intro vB wB hoB hbB hg_ hat_; rw [List.nil_append] at hoB; have HCx := Aside0.mk (Kd.R_step HCx.out fun k_ hk hlt => hg_.block k_ hlt (by rw [hk]; exact fun e => HNE.out e)); have HOB := Aside0.mk hoB; have HBx := Aside0.mk hbB; clear hoB hbB hg_ hat_; refine hK.out _ _ ⟨(blk_cell (blk_below BGd.out HBx.out) 0).trans rfl, (blk_cell (blk_below BGd.out HBx.out) 1).trans rfl⟩ (fun hHeld => ?_); clear hK K; refine norm_ (a' := ?_) ?_ ?_; rotate_left
       ·show Act.put _ (some 47) _ = _; exact zzS
       obtain ⟨AX, cX, eX⟩ := Kd.R_slice HCx.out; subst eX; refine one_ (i := 7) (N := some 50) (zM 11 511) rfl rfl (one_of HT_.out (by kernel_rfl)) (by decide) (fun K hK => ?_); refine Kd.R_append_rows_step (Kd.int .i64) (w0 := wd) wd.heap.size (by rfl) (.tmp 47) (.tmp 49) 26 3 (.int .i64 0) 8 rfl Try.underlying26 info3 rfl (by decide) (by omega) vB s [(j : Int)] _ _ _ (fun _ => True) (fun _ => False) rfl rfl HOB.out (Kd.R_reads' HCx.out).2.2 (fun _ _ h => h) (fun _ h => h.elim) (fun _ _ => trivial) HBx.out (below_size HBx.out) (by have := hsb; simp only [List.length_cons, List.length_nil]; omega) ?_; intro vD wD hoD hbD hg_ hat_; have HBx := Aside0.mk hbD; have hlD : (s ++ [(j : Int)]).length = s.length + 1 := List.length_append; obtain ⟨g, cD, eD, hg1, hg2, _⟩ := Kd.R_form hoD (by omega); subst eD; have HOD := Aside0.mk hoD; have HGD := Aside0.mk (show wd.heap.size ≤ g ∧ g < wD.heap.size from ⟨hg1, hg2⟩); clear hoD hbD hg_ hat_ hg1 hg2; refine hK.out _ _ ⟨(blk_cell (blk_below BGd.out HBx.out) 0).trans rfl, (blk_cell (blk_below BGd.out HBx.out) 1).trans rfl⟩ (fun hHeld => ?_); clear hK K; refine norm_ (a' := ?_) ?_ ?_; rotate_left
       ·show Act.put _ (some 50) _ = _; exact zzS
       refine one_ (i := 9) (N := some 52) (zM 11 1023) rfl rfl (one_of HT_.out (by kernel_rfl)) (by decide) (fun K hK => ?_); refine goes_ Try.func58 (by kernel_rfl) rfl #[.agg #[.int .i64 (n : Int), .slice A0 es.length c0], .int .i64 q, .slice (some ⟨g, 0, none⟩) (s ++ [(j : Int)]).length cD, u3] (by rfl) rfl rfl zz34 ?_; have hTD := Kd.R_lower (Kd.R_tight rfl HOD.out) (below_size HBd.out); have h_ := IH.out (s ++ [(j : Int)]) (fun k_ => some k_ = (Value.slice (some ⟨g, 0, none⟩) (s ++ [(j : Int)]).length cD).ownBlock) (fun k_ => (ok k_ ∧ k_ ≠ gb) ∧ k_ ≠ g) (some ⟨g, 0, none⟩) cD u3 (out ++ (Cf.dfsJ (spec_l11All.cnt k (n : Int) es q) r s.length s j).filter (spec_l11All.pr k (n : Int) es q)) wD ?i1_5 ?i2_5 hTD ?i4_5 ?i5_5 ?i6_5 (below_step HBd.out HBx.out) ?i8_5; (case i1_5 => rw [hlD]; have := HLEN.out; omega); (case i2_5 => rw [hlD]; exact fun t ht => HANS.out t (Cf.dfs_sub _ _ _ _ HJN.out ht)); (case i4_5 => exact fun k_ hk h => h.2 (by simpa [Value.ownBlock] using hk)); (case i5_5 => exact fun k_ hk => ⟨⟨HFR.out k_ (by have := HKd.out.1; have := HBx.out.size; omega), by have := HGW.out.2; have := HZd.out; have := HBx.out.size; omega⟩, by have := HGD.out; omega⟩); (case i6_5 => exact Kd.S_mono (Kd.S_below (Kd.S_bound HSd.out) HBx.out) fun k_ hk => ⟨hk.1, by have := hk.2.2.1; have := HGD.out; omega⟩); (case i8_5 => rw [hlD, List.length_append]; have h1 : (Cf.dfsJ (spec_l11All.cnt k (n : Int) es q) r s.length s j).length + (Cf.dfsB (spec_l11All.cnt k (n : Int) es q) r (s.length + 1) (s ++ [(j : Int)])).length ≤ (Cf.dfsB (spec_l11All.cnt k (n : Int) es q) (r + 1) s.length s).length := Cf.dfsJ_len (spec_l11All.cnt k (n : Int) es q) r s.length s HJN.out; have h2 := List.length_filter_le (spec_l11All.pr k (n : Int) es q) (Cf.dfsJ (spec_l11All.cnt k (n : Int) es q) r s.length s j); have h3 := HL.out; omega); rw [hlD] at h_; (try rw [hlD]); refine h_.mono ?_; rintro e w5 ⟨⟨v5, rfl, hS5⟩, hB5, hK5⟩; have BG5 := Aside0.mk (blk_kept (blk_below BGd.out HBx.out) hK5 (fun h => h.1.2 rfl)); have HS5 := Aside0.mk hS5; have HB5 := Aside0.mk hB5; have HK5 := Aside0.mk (show Kept w w5 ok ∧ w2.heap.size ≤ w5.heap.size from ⟨(HKd.out.below HBx.out).then_ hK5 (fun k_ h => Or.inl h.1.1), by have := hK5.1; have := HBx.out.size; have := HZd.out; omega⟩); clear hS5 hB5 hK5 h_ hTD; refine ⟨_, rfl, ?_⟩; refine hK.out _ _ ⟨(blk_cell BG5.out 0).trans rfl, (blk_cell BG5.out 1).trans rfl⟩ (fun hHeld => ?_); clear hK K; refine norm_ (a' := ?_) ?_ ?_; rotate_left
       ·show Act.put _ (some 52) _ = _; exact zzS
       refine zQ 10 3 (zM 11 2047) ?_
       refine done_ (done_of HT_.out (by kernel_rfl)) ?_; (try go_wp2); go_roundw
       case rel =>
        refine ⟨j + 1, by go_num, ⟨HJN.out⟩, ⟨HB5.out, BG5.out⟩, ⟨?_⟩, HK5⟩; rw [Cf.dfsJ_succ, List.filter_append, ← List.append_assoc]; (refine Kd.S_mono HS5.out fun k_ h => ?_); rcases h with h | h
        ·exact h.1
        ·(have e : k_ = g := by simpa [Value.ownBlock] using h); exact ⟨HFR.out k_ (by have := HKd.out.1; have := HGD.out; omega), by have := HGW.out.2; have := HZd.out; have := HGD.out; omega⟩
       case measure =>
        have := HJN.out; first | (simp [intOf]; done) | (simp [intOf]; omega)
     ·(skip); refine Kd.R_lit_step (w0 := wd) (Kd.int .i64) wd.heap.size 3 ?hg (N := 49) ?hd (xs := [(j : Int)]) (inner := [.int .i64 (j : Int)]) (ok := fun _ => True) (okp := fun _ => True) ?hr ?hp (fun _ hk => hk) trivial (Below.refl _ _) (Nat.le_refl _) (by simp) ?_; (case hd => rfl); (case hg => rfl); (case hr => exact zz9); (case hp => exact Kd.reps_scalar _); intro vX wX hoX hbX hg_ hnew_; have HCx := Aside0.mk (Kd.R_tight rfl hoX); have HBx := Aside0.mk hbX; clear hoX hbX hg_ hnew_; refine hK.out _ _ ⟨(blk_cell (blk_below BGd.out HBx.out) 0).trans rfl, (blk_cell (blk_below BGd.out HBx.out) 1).trans rfl⟩ (fun hHeld => ?_); clear hK K; refine norm_ (a' := ?_) ?_ ?_; rotate_left
      ·show Act.put _ (some 49) _ = _; exact zzS
      refine one_ (i := 2) (N := some 45) (zM 11 367) rfl rfl (one_of HT_.out (by kernel_rfl)) (by decide) (fun K hK => ?_); (skip); refine Kd.R_lit_step (w0 := wd) (Kd.int .i64) wd.heap.size 3 ?hg (N := 45) ?hd (xs := ([] : List Int)) (inner := []) (ok := fun _ => True) (okp := fun _ => True) ?hr ?hp (fun _ hk => hk) trivial HBx.out (below_size HBx.out) (by simp) ?_; (case hd => rfl); (case hg => rfl); (case hr => exact zz9); (case hp => exact (Reps.none _ _)); intro vA wA hoA hbA hg_ hnew_; have HNE := Aside0.mk (show vX.ownBlock ≠ vA.ownBlock from by obtain ⟨b_, hb1, hb2⟩ := hnew_; intro e; have := Kd.R_lt HCx.out b_ (e.trans hb1); omega); have HCx := Aside0.mk (Kd.R_grown (ok := fun k_ => some k_ = vX.ownBlock) HCx.out hg_ (fun k_ _ => by simp)); have HOA := Aside0.mk hoA; have HBx := Aside0.mk hbA; clear hoA hbA hg_ hnew_; refine hK.out _ _ ⟨(blk_cell (blk_below BGd.out HBx.out) 0).trans rfl, (blk_cell (blk_below BGd.out HBx.out) 1).trans rfl⟩ (fun hHeld => ?_); clear hK K; refine norm_ (a' := ?_) ?_ ?_; rotate_left
      ·show Act.put _ (some 45) _ = _; exact zzS
      refine one_ (i := 4) (N := some 47) (zM 11 383) rfl rfl (one_of HT_.out (by kernel_rfl)) (by decide) (fun K hK => ?_); have HRp := Aside0.mk (Kd.R_reads' (Kd.R_below HPd.out HBx.out)); refine Kd.R_append_rows_step (Kd.int .i64) (w0 := wd) wd.heap.size (by rfl) (.tmp 45) (.tmp 46) 26 3 (.int .i64 0) 8 rfl Try.underlying26 info3 rfl (by decide) (by omega) vA ([] : List Int) s _ _ _ (fun _ => True) (fun _ => False) rfl rfl HOA.out HRp.out.2.2 (fun _ _ h => h) (fun _ h => h.elim) (fun _ _ => trivial) HBx.out (below_size HBx.out) (by have := hsb; simp only [List.length_nil]; omega) ?_; intro vB wB hoB hbB hg_ hat_; rw [List.nil_append] at hoB; have HCx := Aside0.mk (Kd.R_step HCx.out fun k_ hk hlt => hg_.block k_ hlt (by rw [hk]; exact fun e => HNE.out e)); have HOB := Aside0.mk hoB; have HBx := Aside0.mk hbB; clear hoB hbB hg_ hat_; refine hK.out _ _ ⟨(blk_cell (blk_below BGd.out HBx.out) 0).trans rfl, (blk_cell (blk_below BGd.out HBx.out) 1).trans rfl⟩ (fun hHeld => ?_); clear hK K; refine norm_ (a' := ?_) ?_ ?_; rotate_left
      ·show Act.put _ (some 47) _ = _; exact zzS
      obtain ⟨AX, cX, eX⟩ := Kd.R_slice HCx.out; subst eX; refine one_ (i := 7) (N := some 50) (zM 11 511) rfl rfl (one_of HT_.out (by kernel_rfl)) (by decide) (fun K hK => ?_); refine Kd.R_append_rows_step (Kd.int .i64) (w0 := wd) wd.heap.size (by rfl) (.tmp 47) (.tmp 49) 26 3 (.int .i64 0) 8 rfl Try.underlying26 info3 rfl (by decide) (by omega) vB s [(j : Int)] _ _ _ (fun _ => True) (fun _ => False) rfl rfl HOB.out (Kd.R_reads' HCx.out).2.2 (fun _ _ h => h) (fun _ h => h.elim) (fun _ _ => trivial) HBx.out (below_size HBx.out) (by have := hsb; simp only [List.length_cons, List.length_nil]; omega) ?_; intro vD wD hoD hbD hg_ hat_; have HBx := Aside0.mk hbD; have hlD : (s ++ [(j : Int)]).length = s.length + 1 := List.length_append; obtain ⟨g, cD, eD, hg1, hg2, _⟩ := Kd.R_form hoD (by omega); subst eD; have HOD := Aside0.mk hoD; have HGD := Aside0.mk (show wd.heap.size ≤ g ∧ g < wD.heap.size from ⟨hg1, hg2⟩); clear hoD hbD hg_ hat_ hg1 hg2; refine hK.out _ _ ⟨(blk_cell (blk_below BGd.out HBx.out) 0).trans rfl, (blk_cell (blk_below BGd.out HBx.out) 1).trans rfl⟩ (fun hHeld => ?_); clear hK K; refine norm_ (a' := ?_) ?_ ?_; rotate_left
      ·show Act.put _ (some 50) _ = _; exact zzS
      refine one_ (i := 9) (N := some 52) (zM 11 1023) rfl rfl (one_of HT_.out (by kernel_rfl)) (by decide) (fun K hK => ?_); refine goes_ Try.func58 (by kernel_rfl) rfl #[.agg #[.int .i64 (n : Int), .slice A0 es.length c0], .int .i64 q, .slice (some ⟨g, 0, none⟩) (s ++ [(j : Int)]).length cD, u3] (by rfl) rfl rfl zz34 ?_; have hTD := Kd.R_lower (Kd.R_tight rfl HOD.out) (below_size HBd.out); have h_ := IH.out (s ++ [(j : Int)]) (fun k_ => some k_ = (Value.slice (some ⟨g, 0, none⟩) (s ++ [(j : Int)]).length cD).ownBlock) (fun k_ => (ok k_ ∧ k_ ≠ gb) ∧ k_ ≠ g) (some ⟨g, 0, none⟩) cD u3 (out ++ (Cf.dfsJ (spec_l11All.cnt k (n : Int) es q) r s.length s j).filter (spec_l11All.pr k (n : Int) es q)) wD ?i1_6 ?i2_6 hTD ?i4_6 ?i5_6 ?i6_6 (below_step HBd.out HBx.out) ?i8_6; (case i1_6 => rw [hlD]; have := HLEN.out; omega); (case i2_6 => rw [hlD]; exact fun t ht => HANS.out t (Cf.dfs_sub _ _ _ _ HJN.out ht)); (case i4_6 => exact fun k_ hk h => h.2 (by simpa [Value.ownBlock] using hk)); (case i5_6 => exact fun k_ hk => ⟨⟨HFR.out k_ (by have := HKd.out.1; have := HBx.out.size; omega), by have := HGW.out.2; have := HZd.out; have := HBx.out.size; omega⟩, by have := HGD.out; omega⟩); (case i6_6 => exact Kd.S_mono (Kd.S_below (Kd.S_bound HSd.out) HBx.out) fun k_ hk => ⟨hk.1, by have := hk.2.2.1; have := HGD.out; omega⟩); (case i8_6 => rw [hlD, List.length_append]; have h1 : (Cf.dfsJ (spec_l11All.cnt k (n : Int) es q) r s.length s j).length + (Cf.dfsB (spec_l11All.cnt k (n : Int) es q) r (s.length + 1) (s ++ [(j : Int)])).length ≤ (Cf.dfsB (spec_l11All.cnt k (n : Int) es q) (r + 1) s.length s).length := Cf.dfsJ_len (spec_l11All.cnt k (n : Int) es q) r s.length s HJN.out; have h2 := List.length_filter_le (spec_l11All.pr k (n : Int) es q) (Cf.dfsJ (spec_l11All.cnt k (n : Int) es q) r s.length s j); have h3 := HL.out; omega); rw [hlD] at h_; (try rw [hlD]); refine h_.mono ?_; rintro e w5 ⟨⟨v5, rfl, hS5⟩, hB5, hK5⟩; have BG5 := Aside0.mk (blk_kept (blk_below BGd.out HBx.out) hK5 (fun h => h.1.2 rfl)); have HS5 := Aside0.mk hS5; have HB5 := Aside0.mk hB5; have HK5 := Aside0.mk (show Kept w w5 ok ∧ w2.heap.size ≤ w5.heap.size from ⟨(HKd.out.below HBx.out).then_ hK5 (fun k_ h => Or.inl h.1.1), by have := hK5.1; have := HBx.out.size; have := HZd.out; omega⟩); clear hS5 hB5 hK5 h_ hTD; refine ⟨_, rfl, ?_⟩; refine hK.out _ _ ⟨(blk_cell BG5.out 0).trans rfl, (blk_cell BG5.out 1).trans rfl⟩ (fun hHeld => ?_); clear hK K; refine norm_ (a' := ?_) ?_ ?_; rotate_left
      ·show Act.put _ (some 52) _ = _; exact zzS
      refine zQ 10 3 (zM 11 2047) ?_
      refine done_ (done_of HT_.out (by kernel_rfl)) ?_; (try go_wp2); go_roundw
      case rel =>
       refine ⟨j + 1, by go_num, ⟨HJN.out⟩, ⟨HB5.out, BG5.out⟩, ⟨?_⟩, HK5⟩; rw [Cf.dfsJ_succ, List.filter_append, ← List.append_assoc]; (refine Kd.S_mono HS5.out fun k_ h => ?_); rcases h with h | h
       ·exact h.1
       ·(have e : k_ = g := by simpa [Value.ownBlock] using h); exact ⟨HFR.out k_ (by have := HKd.out.1; have := HGD.out; omega), by have := HGW.out.2; have := HZd.out; have := HGD.out; omega⟩
      case measure =>
       have := HJN.out; first | (simp [intOf]; done) | (simp [intOf]; omega)
    ·have d0 : decide ((j : Int) < mo) = false := decide_eq_false (by have := HCN2.out; omega); (have hjn : j = spec_l11All.cnt k (n : Int) es q s.length := by have := HJ.out; omega); have HJE := Aside0.mk hjn; clear hj hjn; go_wp2; go_ret; refine ⟨⟨_, rfl, ?_⟩, HBG.out.1, HKr.out.1⟩; have hS := HSr.out; rw [HJE.out, Cf.dfsJ_all] at hS; exact Kd.S_mono hS fun k_ h => Or.inl h.1
def spec_l09Less.l0 : Nat → List Int → List Int → Int → Int → Option (Bool)
 | 0, _, _, _, _ => none
 | k + 1, x1, x7, x8, x9 => if x9 < x8 then (if 0 ≤ x9 then (if x9 < (x7.length : Int) then (if x9 < (x1.length : Int) then (if (rd x7 x9) = (rd x1 x9) then (spec_l09Less.l0 k x1 x7 x8 (wrap64 (x9 + 1))) else (some (decide ((rd x7 x9) < (rd x1 x9))))) else (none)) else (none)) else (none)) else (some false)
def spec_l09Less.f (k : Nat) (l0 : List Int) (l1 : List Int) : Option (Bool) := spec_l09Less.l0 k l1 l0 (l0.length : Int) 0
theorem spec_l09Less.mono_l : ∀ k, (∀ y0 y1 y2 y3, LeO (spec_l09Less.l0 k y0 y1 y2 y3) (spec_l09Less.l0 (k + 1) y0 y1 y2 y3))
 | 0 => fun _ _ _ _ r h => by simp [spec_l09Less.l0] at h
 | k + 1 => by
  have ih0 := spec_l09Less.mono_l k
  ·intro y0 y1 y2 y3
   unfold spec_l09Less.l0
   exact zm0
theorem spec_l09Less.mono : ∀ a0 a1 k, LeO (spec_l09Less.f k a0 a1) (spec_l09Less.f (k + 1) a0 a1) := by
 intro a0 a1 k; have ih0 := spec_l09Less.mono_l k; unfold spec_l09Less.f; exact zm0
theorem spec_l09Less.calls (k : Nat) (A0 : Option Addr) (c0 : Nat) (l0 : List Int) (A1 : Option Addr) (c1 : Nat) (l1 : List Int) (r : Bool) (w : World) (hr0 : Kd.C (Kd.int .i64) w A0 l0.length l0) (hc0 : l0.length ≤ c0) (hr1 : Kd.C (Kd.int .i64) w A1 l1.length l1) (hc1 : l1.length ≤ c1) (h : spec_l09Less.f k l0 l1 = some r) :
  Calls Try.prog 96 #[.slice A0 l0.length c0, .slice A1 l1.length c1] w fun e w' => e = .returned (.bool r) ∧ Drawn0 w w' := by
 have HR0 := zK_ hr0; have HC0 := zK_ hc0; clear hr0 hc0; have HR1 := zK_ hr1; have HC1 := zK_ hc1; clear hr1 hc1; have H : (spec_l09Less.l0 k l1 l0 (l0.length : Int) 0) = some r := h; clear h; have H' := zK_ H; clear H; go_enter Try.func96, Try.ntmps96; go_wp2; (go_loopg [9] k (fun kq v9 w' => ∃ (bN : Int), v9 = .int .i64 bN ∧ Aside0 (spec_l09Less.l0 kq l1 l0 (l0.length : Int) bN = some r) ∧ Aside0 (kq ≤ k) ∧ Drawn0 w w')); case atStart => exact ⟨(0), zz5, H', ⟨Nat.le_refl _⟩, by repeat (first | exact Drawn0.refl _ | apply Drawn0.step)⟩
 case round =>
  clear H'; (try clear c1); (try clear p2); obtain ⟨bN, rfl, HA, HK1, ⟨m1, rfl⟩⟩ := hrel
  cases gk with
  | zero => exact absurd HA.out (by simp [spec_l09Less.l0])
  | succ k1 =>
   have H := HA.out; clear HA; simp only [spec_l09Less.l0] at H; by_cases c3 : bN < (l0.length : Int); rotate_left
   ·rw [if_neg c3] at H; have dU := decide_eq_false c3; clear c3; obtain rfl := Option.some.inj H; go_wp2; go_ret; exact ⟨zz5, by repeat (first | exact Drawn0.refl _ | apply Drawn0.step)⟩
   rw [if_pos c3] at H; have dU := decide_eq_true c3; clear c3; by_cases c4 : 0 ≤ bN; rotate_left
   ·rw [if_neg c4] at H; exact absurd H (by simp)
   rw [if_pos c4] at H; have dI := decide_eq_true c4; clear c4; by_cases c5 : bN < (l0.length : Int); rotate_left
   ·rw [if_neg c5] at H; exact absurd H (by simp)
   rw [if_pos c5] at H; have dS := decide_eq_true c5; clear c5; by_cases c6 : bN < (l1.length : Int); rotate_left
   ·rw [if_neg c6] at H; exact absurd H (by simp)
   rw [if_pos c6] at H; have eS := decide_eq_true c6; clear c6; by_cases c7 : (rd l0 bN) = (rd l1 bN)
   ·rw [if_pos c7] at H; have d4 : ((rd l0 bN) == (rd l1 bN)) = true := beq_iff_eq.mpr c7; have lA : ((rd l0 bN) != (rd l1 bN)) = false := bne_eq_false_iff_eq.mpr c7; clear c7; have H' := zK_ H; clear H; have p101 : 0 ≤ (bN : Int) := of_decide_eq_true zz4; have q101 : bN < (l0.length : Int) := of_decide_eq_true zz4; obtain ⟨cR, e101, a7⟩ := Kd.at_int HR0.out bN p101 q101; cases e101; replace p101 := eq_true p101; replace q101 := eq_true q101; have p102 : 0 ≤ (bN : Int) := of_decide_eq_true zz4; have q102 : bN < (l1.length : Int) := of_decide_eq_true zz4; obtain ⟨dB, e102, bA⟩ := Kd.at_int HR1.out bN p102 q102; cases e102; replace p102 := eq_true p102; replace q102 := eq_true q102; go_wp2; go_roundg k1; (case measure => have := HK1.out; omega); case rel => exact ⟨(wrap64 (bN + 1)), zz5, H', ⟨zz36⟩, by repeat (first | exact Drawn0.refl _ | apply Drawn0.step)⟩
   rw [if_neg c7] at H; have d4 : ((rd l0 bN) == (rd l1 bN)) = false := beq_eq_false_iff_ne.mpr c7; have lA : ((rd l0 bN) != (rd l1 bN)) = true := bne_iff_ne.mpr c7; obtain rfl := Option.some.inj H; have p101 : 0 ≤ (bN : Int) := of_decide_eq_true zz4; have q101 : bN < (l0.length : Int) := of_decide_eq_true zz4; obtain ⟨cR, e101, a7⟩ := Kd.at_int HR0.out bN p101 q101; cases e101; replace p101 := eq_true p101; replace q101 := eq_true q101; have p102 : 0 ≤ (bN : Int) := of_decide_eq_true zz4; have q102 : bN < (l1.length : Int) := of_decide_eq_true zz4; obtain ⟨dB, e102, bA⟩ := Kd.at_int HR1.out bN p102 q102; cases e102; replace p102 := eq_true p102; replace q102 := eq_true q102; have p103 : 0 ≤ (bN : Int) := of_decide_eq_true zz4; have q103 : bN < (l1.length : Int) := of_decide_eq_true zz4; obtain ⟨bG, e103, aV⟩ := Kd.at_int HR1.out bN p103 q103; obtain rfl : dB = bG := (by injection e103); replace p103 := eq_true p103; replace q103 := eq_true q103; go_wp2; go_ret; exact ⟨zz5, by repeat (first | exact Drawn0.refl _ | apply Drawn0.step)⟩
end Go.Proofs.Ytnbljcgdgblgoaa.P
end

section
namespace Go.Proofs.Ytnbljcgdgblgoaa.Cf
set_option linter.unusedVariables false
set_option linter.unusedSimpArgs false
open Go.RowKit Go.Proofs.YtnbljcgdgblgoaaW.PrintWords
def Heads (w : World) (base : Nat) (ok : Nat → Prop) (f : Nat → Nat) (cur : Array Value) (Z : List (List Int × Nat)) : Prop :=
 ∀ (j : Nat) (x : List Int) (i : Nat), Z[j]? = some (x, i) → ∃ v, cur[j]? = some v ∧ Kd.R (Kd.int .i64) 3 w base (fun k => ok k ∧ f k = i) v x
theorem S_heads {w : World} {base g n cap : Nat} {ok : Nat → Prop} {rows : List (List Int)} (h : Kd.S (Kd.slice 3 (Kd.int .i64)) 26 w base ok (.slice (some ⟨g, 0, none⟩) n cap) rows) :
  ∃ f cur, base ≤ g ∧ ok g ∧ n = rows.length ∧ n ≤ cap ∧ cap ≤ maxLen ∧ cur.size = cap ∧ w.heap[g]? = some (.cells cur 26 (0, 0)) ∧ Heads w base (fun k => ok k ∧ k ≠ g) f cur rows.zipIdx := by
 obtain ⟨f, h0, inner, ho, hr⟩ := h
 rw [List.length_zipIdx] at ho
 have hn := ho.1
 rcases ho.2 with ⟨hv, _⟩ | ⟨g', cap', cur, hv, hb, hc, hnc, hcm, hcs, htk⟩
 ·cases hv
 ·injection hv with hA hN hC
  injection hA with hA
  injection hA with hA
  subst hA
  subst hC
  have hl : (rows.length : Nat) = n := hN.symm
  refine ⟨f, cur, hb, h0 g rfl, hl.symm, by omega, hcm, by rw [hcs]; exact Nat.mul_one _, hc, ?_⟩
  intro j x i hj
  have hM := hr.2 j (x, i) hj
  obtain ⟨v, hv2, hR⟩ := hM
  refine ⟨v, ?_, Kd.R_mono hR fun k hk => ⟨⟨hk.1.1, fun e => hk.1.2 (by rw [e]; rfl)⟩, hk.2⟩⟩
  have e1 : ((inner.drop (j * 1)).take 1) = [v] := hv2
  rw [Nat.mul_one] at e1
  have hjl : j < rows.length := by have := (List.getElem?_eq_some_iff.1 hj).1; rwa [List.length_zipIdx] at this
  have e2 : inner[j]? = some v := by
   have h1 := congrArg (fun l : List Value => l[0]?) e1
   simp only [List.getElem?_take, List.getElem?_drop] at h1
   simpa using h1
  rw [← htk, List.getElem?_take, if_pos (by show j < rows.length * 1; omega)] at e2
  simpa using e2
theorem heads_S {w : World} {base g cap : Nat} {ok : Nat → Prop} {f : Nat → Nat} {cur : Array Value} {rows : List (List Int)} (hb : base ≤ g) (hok : ok g) (hn : rows.length ≤ cap) (hcm : cap ≤ maxLen) (hcs : cur.size = cap) (hc : w.heap[g]? = some (.cells cur 26 (0, 0))) (hH : Heads w base ok f cur rows.zipIdx) :
  Kd.S (Kd.slice 3 (Kd.int .i64)) 26 w base ok (.slice (some ⟨g, 0, none⟩) rows.length cap) rows := by
 have hz : rows.zipIdx.length = rows.length := List.length_zipIdx
 refine ⟨f, fun k hk => ?_, cur.toList.take rows.length, ?_, ?_⟩
 ·have : g = k := by simpa [Value.ownBlock] using hk
  rw [← this]; exact hok
 ·rw [hz]
  refine ⟨?_, .inr ⟨g, cap, cur, rfl, hb, hc, hn, hcm, by rw [hcs]; exact (Nat.mul_one _).symm, ?_⟩⟩
  ·show _ = rows.length * 1
   rw [List.length_take, show cur.toList.length = cap from hcs, Nat.min_eq_left hn, Nat.mul_one]
  ·show cur.toList.take (rows.length * 1) = _
   rw [Nat.mul_one]
 ·refine ⟨?_, fun j p hj => ?_⟩
  ·show _ = rows.zipIdx.length * 1
   rw [hz, List.length_take, show cur.toList.length = cap from hcs, Nat.min_eq_left hn, Nat.mul_one]
  ·obtain ⟨x, i⟩ := p
   obtain ⟨v, hv, hR⟩ := hH j x i hj
   have hjl : j < rows.length := by have := (List.getElem?_eq_some_iff.1 hj).1; rwa [List.length_zipIdx] at this
   refine ⟨v, ?_, Kd.R_mono (Kd.R_types hR hc (by decide)) fun k hk => ⟨⟨hk.1.1, fun e => hk.2 (by simpa [Value.ownBlock] using e)⟩, hk.1.2⟩⟩
   show ((cur.toList.take rows.length).drop (j * 1)).take 1 = [v]
   have e : (cur.toList.take rows.length)[j]? = some v := by
    rw [List.getElem?_take, if_pos hjl]
    simpa using hv
   obtain ⟨hl, he⟩ := List.getElem?_eq_some_iff.1 e
   rw [Nat.mul_one, List.drop_eq_getElem_cons hl, he]
   rfl
def keptZ (p : List Int → Bool) (rows : List (List Int)) (j : Nat) : List (List Int × Nat) := (rows.zipIdx.take j).filter fun x => !p x.1
theorem keptZ_succ (p : List Int → Bool) {rows : List (List Int)} {j : Nat} (h : j < rows.length) : keptZ p rows (j + 1) = keptZ p rows j ++ (if p rows[j] = true then [] else [(rows[j], j)]) := by
 have hz : rows.zipIdx[j]? = some (rows[j], j) := by rw [List.getElem?_zipIdx, List.getElem?_eq_getElem h, Nat.zero_add]; rfl
 unfold keptZ
 rw [List.take_add_one, hz, List.filter_append]
 congr 1
 by_cases c : p rows[j] = true
 ·rw [if_pos c]; simp [c]
 ·rw [if_neg c]; simp [c]
theorem keptZ_all (p : List Int → Bool) (rows : List (List Int)) : (keptZ p rows rows.length).map (·.1) = rows.filter fun x => !p x := by
 unfold keptZ
 rw [List.take_of_length_le (by rw [List.length_zipIdx]; exact Nat.le_refl _)]
 have h := List.filter_map (f := fun x : List Int × Nat => x.1) (p := fun x => !p x) (l := rows.zipIdx)
 rw [List.zipIdx_map_fst] at h
 exact h.symm
theorem keptZ_nodup (p : List Int → Bool) (rows : List (List Int)) (j : Nat) : ((keptZ p rows j).map (·.2)).Nodup := by
 have h1 : (keptZ p rows j).Sublist rows.zipIdx := (List.filter_sublist).trans (List.take_sublist _ _)
 have h2 := h1.map (·.2)
 refine h2.nodup ?_
 rw [List.zipIdx_map_snd]
 exact List.nodup_range'
theorem heads_push {w : World} {base : Nat} {ok : Nat → Prop} {f : Nat → Nat} {cur : Array Value} {Z : List (List Int × Nat)} (h : Heads w base ok f cur Z) {v : Value} {x : List Int} {t : Nat} (hl : Z.length < cur.size) (hR : Kd.R (Kd.int .i64) 3 w base (fun k => ok k ∧ f k = t) v x) : Heads w base ok f (cur.setIfInBounds Z.length v) (Z ++ [(x, t)]) := by
 intro j y i hj
 by_cases e : j < Z.length
 ·rw [List.getElem?_append_left e] at hj
  obtain ⟨u, hu, hRu⟩ := h j y i hj
  exact ⟨u, by rw [Array.getElem?_setIfInBounds_ne (by omega)]; exact hu, hRu⟩
 ·have hjl := (List.getElem?_eq_some_iff.1 hj).1
  rw [List.length_append, List.length_singleton] at hjl
  obtain rfl : j = Z.length := by omega
  rw [List.getElem?_append_right (Nat.le_refl _), Nat.sub_self] at hj
  obtain ⟨rfl, rfl⟩ := Prod.mk.inj (Option.some.inj hj)
  exact ⟨v, by rw [Array.getElem?_setIfInBounds_self_of_lt hl], hR⟩
theorem heads_take {w : World} {base : Nat} {ok : Nat → Prop} {f : Nat → Nat} {cur : Array Value} {Z : List (List Int × Nat)} (h : Heads w base ok f cur Z) (n : Nat) : Heads w base ok f cur (Z.take n) := by
 intro j x i hj
 rw [List.getElem?_take] at hj
 split at hj
 ·exact h j x i hj
 ·cases hj
theorem heads_cells {w : World} {base : Nat} {ok : Nat → Prop} {f : Nat → Nat} {cur cur' : Array Value} {Z : List (List Int × Nat)} (h : Heads w base ok f cur Z) (hc : ∀ j, j < Z.length → cur'[j]? = cur[j]?) : Heads w base ok f cur' Z := by
 intro j x i hj
 obtain ⟨v, hv, hR⟩ := h j x i hj
 exact ⟨v, (hc j (List.getElem?_eq_some_iff.1 hj).1).trans hv, hR⟩
theorem heads_step {w w1 : World} {base : Nat} {ok : Nat → Prop} {f : Nat → Nat} {cur : Array Value} {Z : List (List Int × Nat)} (h : Heads w base ok f cur Z) (hm : ∀ k, ok k → k < w.heap.size → w1.heap[k]? = w.heap[k]?) : Heads w1 base ok f cur Z := fun j x i hj => by
 obtain ⟨v, hv, hR⟩ := h j x i hj
 exact ⟨v, hv, Kd.R_step hR fun k hk hlt => hm k hk.1 hlt⟩
theorem keptZ_pre (p : List Int → Bool) (rows : List (List Int)) {i : Nat} (hi : i ≤ rows.length) (h : ∀ j, (hj : j < rows.length) → j < i → p rows[j] = false) : keptZ p rows i = rows.zipIdx.take i := by
 unfold keptZ
 rw [List.filter_eq_self]
 intro x hx
 obtain ⟨j, hj, rfl⟩ := List.getElem_of_mem hx
 rw [List.length_take, List.length_zipIdx] at hj
 rw [List.getElem_take, List.getElem_zipIdx]
 simp only
 rw [h j (by omega) (by omega)]
 rfl
theorem kept_S {w : World} {base g cap : Nat} {ok : Nat → Prop} {f : Nat → Nat} {cur : Array Value} {rows : List (List Int)} {p : List Int → Bool} (hb : base ≤ g) (hok : ok g) (hn : rows.length ≤ cap) (hcm : cap ≤ maxLen) (hcs : cur.size = cap) (hc : w.heap[g]? = some (.cells cur 26 (0, 0))) (hH : Heads w base ok f cur (keptZ p rows rows.length)) :
  Kd.S (Kd.slice 3 (Kd.int .i64)) 26 w base ok (.slice (some ⟨g, 0, none⟩) (rows.filter fun x => !p x).length cap) (rows.filter fun x => !p x) := by
 have hl : (rows.filter fun x => !p x).length ≤ cap := Nat.le_trans (List.length_filter_le _ _) hn
 refine heads_S (f := fun k => ((keptZ p rows rows.length).map (·.2)).idxOf (f k)) hb hok hl hcm hcs hc ?_
 intro j x i hj
 rw [← keptZ_all p rows] at hj
 rw [List.getElem?_zipIdx, Nat.zero_add, List.getElem?_map] at hj
 obtain ⟨y, hy, he⟩ := Option.map_eq_some_iff.1 hj
 obtain ⟨z, hz, hz2⟩ := Option.map_eq_some_iff.1 hy
 obtain ⟨z1, z2⟩ := z
 subst hz2
 obtain ⟨rfl, rfl⟩ := Prod.mk.inj he
 obtain ⟨v, hv, hR⟩ := hH j z1 z2 hz
 refine ⟨v, hv, Kd.R_mono hR fun k hk => ⟨hk.1, ?_⟩⟩
 show ((keptZ p rows rows.length).map (·.2)).idxOf (f k) = j
 have hm : ((keptZ p rows rows.length).map (·.2))[j]? = some z2 := by rw [List.getElem?_map, hz]; rfl
 obtain ⟨hjl, hje⟩ := List.getElem?_eq_some_iff.1 hm
 rw [hk.2, ← hje]
 exact (keptZ_nodup p rows rows.length).idxOf_getElem j hjl
def encH (t : Option Addr × Nat × Nat) : Value := .slice t.1 t.2.1 t.2.2
def HK : Kd (Option Addr × Nat × Nat) := Kd.scalar encH (fun _ => rfl)
theorem heads_of {w : World} {base n c : Nat} {A : Option Addr} {ok : Nat → Prop} {rows : List (List Int)} (h : Kd.S (Kd.slice 3 (Kd.int .i64)) 26 w base ok (.slice A n c) rows) :
  ∃ (f : Nat → Nat) (H : Nat → Option Addr × Nat × Nat), ∀ (j : Nat) (x : List Int), rows[j]? = some x → Kd.R (Kd.int .i64) 3 w base (fun k => ok k ∧ f k = j) (encH (H j)) x ∧ ∀ g, A = some ⟨g, 0, none⟩ → w.cell? ⟨g, j, none⟩ = some (encH (H j)) := by
 obtain ⟨f, h0, inner, ho, hr⟩ := h
 have key : ∀ (j : Nat) (x : List Int), rows[j]? = some x → ∃ t : Option Addr × Nat × Nat, Kd.R (Kd.int .i64) 3 w base (fun k => ok k ∧ f k = j) (encH t) x ∧ ∀ g, A = some ⟨g, 0, none⟩ → w.cell? ⟨g, j, none⟩ = some (encH t) := by
  intro j x hj
  have hz : rows.zipIdx[j]? = some (x, j) := by rw [List.getElem?_zipIdx, hj, Nat.zero_add]; rfl
  obtain ⟨v, hv2, hR⟩ := hr.2 j (x, j) hz
  obtain ⟨Ax, cx, ex⟩ := Kd.R_slice hR
  subst ex
  have e1 : ((inner.drop (j * 1)).take 1) = [.slice Ax x.length cx] := hv2
  rw [Nat.mul_one] at e1
  have e2 : inner[j]? = some (.slice Ax x.length cx) := by
   have h1 := congrArg (fun l : List Value => l[0]?) e1
   simp only [List.getElem?_take, List.getElem?_drop] at h1
   simpa using h1
  refine ⟨(Ax, x.length, cx), Kd.R_mono hR fun k hk => ⟨hk.1.1, hk.2⟩, fun g hg => ?_⟩
  subst hg
  have h3 := ho.cells (g := g) rfl j _ e2
  rwa [add_plain] at h3
 classical
 refine ⟨f, fun j => if hj : j < rows.length then (key j rows[j] (List.getElem?_eq_getElem hj)).choose else (none, 0, 0), fun j x hx => ?_⟩
 obtain ⟨hj, e⟩ := List.getElem?_eq_some_iff.1 hx
 subst e
 simp only [dif_pos hj]
 exact (key j rows[j] (List.getElem?_eq_getElem hj)).choose_spec
theorem HK_S {w : World} {base : Nat} {okH ok : Nat → Prop} {f : Nat → Nat} {H : Nat → Option Addr × Nat × Nat} {v : Value} {Z : List (List Int × Nat)} (hR : Kd.R HK 26 w base okH v (Z.map fun z => H z.2)) (hz : (Z.map (·.2)).Nodup) (hrow : ∀ z ∈ Z, Kd.R (Kd.int .i64) 3 w base (fun k => ok k ∧ f k = z.2) (encH (H z.2)) z.1) :
  Kd.S (Kd.slice 3 (Kd.int .i64)) 26 w base (fun k => okH k ∨ ok k) v (Z.map (·.1)) := by
 have hty := Kd.R_typed hR
 obtain ⟨h0, inner, ho, hr⟩ := hR
 rw [List.length_map] at ho
 refine ⟨fun k => (Z.map (·.2)).idxOf (f k), fun k hk => Or.inl (h0 k hk), inner, by rw [List.length_zipIdx, List.length_map]; exact ho, ⟨?_, fun j p hj => ?_⟩⟩
 ·rw [List.length_zipIdx, List.length_map]
  have := hr.1
  rw [List.length_map] at this
  exact this
 ·obtain ⟨x, i⟩ := p
  rw [List.getElem?_zipIdx, Nat.zero_add, List.getElem?_map] at hj
  obtain ⟨y, hy, he⟩ := Option.map_eq_some_iff.1 hj
  obtain ⟨z, hz1, hz2⟩ := Option.map_eq_some_iff.1 hy
  obtain ⟨rfl, rfl⟩ := Prod.mk.inj he
  subst hz2
  have hM : ((inner.drop (j * 1)).take 1) = [encH (H z.2)] := hr.2 j (H z.2) (by rw [List.getElem?_map, hz1]; rfl)
  refine ⟨encH (H z.2), hM, ?_⟩
  have hR2 := hrow z (List.mem_of_getElem? hz1)
  have hidx : (Z.map (·.2)).idxOf z.2 = j := by
   have hm : (Z.map (·.2))[j]? = some z.2 := by rw [List.getElem?_map, hz1]; rfl
   obtain ⟨hjl, hje⟩ := List.getElem?_eq_some_iff.1 hm
   rw [← hje]
   exact hz.idxOf_getElem j hjl
  have hR3 : Kd.R (Kd.int .i64) 3 w base (fun k => (ok k ∧ f k = z.2) ∧ some k ≠ v.ownBlock) (encH (H z.2)) z.1 := by
   cases hv : v.ownBlock with
   | none => exact Kd.R_mono hR2 fun k hk => ⟨hk, by simp⟩
   | some g =>
    obtain ⟨cells, hc⟩ := hty g hv
    exact Kd.R_mono (Kd.R_types hR2 hc (by decide)) fun k hk => ⟨hk.1, fun e => hk.2 (by injection e)⟩
  exact Kd.R_mono hR3 fun k hk => ⟨⟨Or.inr hk.1.1, hk.2⟩, by show (Z.map (·.2)).idxOf (f k) = j; rw [hk.1.2]; exact hidx⟩
def kpos {α : Type} (lt : α → α → Bool) (x : α) (Z : List α) : Nat → Nat
 | 0 => 0
 | k + 1 => match Z[k]? with
  | some y => if lt x y = true then kpos lt x Z k else k + 1
  | none => k + 1
def insB {α : Type} (lt : α → α → Bool) (x : α) (Z : List α) : List α := Z.take (kpos lt x Z Z.length) ++ x :: Z.drop (kpos lt x Z Z.length)
def sortB {α : Type} (lt : α → α → Bool) (l : List α) (i : Nat) : List α := (l.take i).foldl (fun Z x => insB lt x Z) []
theorem kpos_le {α : Type} (lt : α → α → Bool) (x : α) (Z : List α) : ∀ k, kpos lt x Z k ≤ k
 | 0 => Nat.le_refl _
 | k + 1 => by
  unfold kpos
  split
  ·split
   ·exact Nat.le_succ_of_le (kpos_le lt x Z k)
   ·exact Nat.le_refl _
  ·exact Nat.le_refl _
theorem kpos_at {α : Type} (lt : α → α → Bool) (x : α) {Z : List α} {k : Nat} {y : α} (h : Z[k]? = some y) : kpos lt x Z (k + 1) = if lt x y = true then kpos lt x Z k else k + 1 := by
 rw [kpos, h]
theorem insB_len {α : Type} (lt : α → α → Bool) (x : α) (Z : List α) : (insB lt x Z).length = Z.length + 1 := by
 have := kpos_le lt x Z Z.length
 unfold insB
 rw [List.length_append, List.length_cons, List.length_take, List.length_drop]
 omega
theorem sortB_succ {α : Type} (lt : α → α → Bool) {l : List α} {i : Nat} {x : α} (h : l[i]? = some x) : sortB lt l (i + 1) = insB lt x (sortB lt l i) := by
 unfold sortB
 rw [List.take_add_one, h, List.foldl_append]
 rfl
theorem sortB_len {α : Type} (lt : α → α → Bool) (l : List α) : ∀ i, i ≤ l.length → (sortB lt l i).length = i
 | 0, _ => rfl
 | i + 1, h => by
  rw [sortB_succ lt (List.getElem?_eq_getElem (show i < l.length by omega)), insB_len, sortB_len lt l i (by omega)]
theorem insB_perm {α : Type} (lt : α → α → Bool) (x : α) (Z : List α) : (insB lt x Z).Perm (x :: Z) := by
 unfold insB
 refine List.perm_middle.trans ?_
 rw [List.take_append_drop]
theorem sortB_perm {α : Type} (lt : α → α → Bool) (l : List α) : ∀ i, i ≤ l.length → (sortB lt l i).Perm (l.take i)
 | 0, _ => by rw [List.take_zero]; exact List.Perm.refl _
 | i + 1, h => by
  rw [sortB_succ lt (List.getElem?_eq_getElem (show i < l.length by omega)), List.take_succ_eq_append_getElem (by omega)]
  exact (insB_perm lt _ _).trans (((sortB_perm lt l i (by omega)).cons _).trans (List.perm_append_comm (l₁ := [l[i]]) (l₂ := l.take i)))
theorem kpos_map {α β : Type} (g : α → β) (lt : β → β → Bool) (x : α) (Z : List α) : ∀ k, kpos (fun a b => lt (g a) (g b)) x Z k = kpos lt (g x) (Z.map g) k
 | 0 => rfl
 | k + 1 => by
  unfold kpos
  rw [List.getElem?_map]
  cases Z[k]? with
  | none => rfl
  | some y => simp only [Option.map_some, kpos_map g lt x Z k]
theorem insB_map {α β : Type} (g : α → β) (lt : β → β → Bool) (x : α) (Z : List α) : (insB (fun a b => lt (g a) (g b)) x Z).map g = insB lt (g x) (Z.map g) := by
 unfold insB
 rw [kpos_map, List.map_append, List.map_cons, List.map_take, List.map_drop, List.length_map]
theorem sortB_map {α β : Type} (g : α → β) (lt : β → β → Bool) (l : List α) : ∀ i, i ≤ l.length → (sortB (fun a b => lt (g a) (g b)) l i).map g = sortB lt (l.map g) i
 | 0, _ => rfl
 | i + 1, h => by
  rw [sortB_succ _ (List.getElem?_eq_getElem (show i < l.length by omega)), insB_map, sortB_map g lt l i (by omega), sortB_succ lt (x := g l[i]) (by rw [List.getElem?_map, List.getElem?_eq_getElem (show i < l.length by omega)]; rfl)]
theorem ins_set {α β : Type} (hd : α → β) {Z : List α} {hk : List β} {k : Nat} (z : α) (hl : hk.length = Z.length + 1) (hkl : k ≤ Z.length) (h1 : ∀ t, t < k → hk[t]? = (Z[t]?).map hd) (h2 : ∀ t, k < t → t ≤ Z.length → hk[t]? = (Z[t - 1]?).map hd) : hk.set k (hd z) = (Z.take k ++ z :: Z.drop k).map hd := by
 refine List.ext_getElem? fun t => ?_
 rw [List.getElem?_map]
 by_cases c1 : t < k
 ·rw [List.getElem?_set_ne (by omega), h1 t c1, List.getElem?_append_left (by rw [List.length_take]; omega), List.getElem?_take, if_pos c1]
 ·rw [List.getElem?_append_right (by rw [List.length_take]; omega), List.length_take, Nat.min_eq_left hkl]
  by_cases c2 : t = k
  ·subst c2
   rw [List.getElem?_set_self (by omega), Nat.sub_self]
   rfl
  ·rw [List.getElem?_set_ne (by omega), show t - k = (t - 1 - k) + 1 by omega, List.getElem?_cons_succ, List.getElem?_drop, show k + (t - 1 - k) = t - 1 by omega]
   by_cases c3 : t ≤ Z.length
   ·exact h2 t (by omega) c3
   ·rw [List.getElem?_eq_none (by omega), List.getElem?_eq_none (by omega)]
    rfl
theorem sortZ_mem {lt : List Int × Nat → List Int × Nat → Bool} {l : List (List Int)} {i : Nat} (hi : i ≤ l.length) {z : List Int × Nat} (h : z ∈ sortB lt l.zipIdx i) : l[z.2]? = some z.1 := by
 have h2 := (sortB_perm lt l.zipIdx i (by rw [List.length_zipIdx]; exact hi)).mem_iff.1 h
 exact List.mem_zipIdx_iff_getElem?.1 (List.mem_of_mem_take h2)
theorem sortZ_nodup {lt : List Int × Nat → List Int × Nat → Bool} {l : List (List Int)} {i : Nat} (hi : i ≤ l.length) : ((sortB lt l.zipIdx i).map (·.2)).Nodup := by
 have h := (sortB_perm lt l.zipIdx i (by rw [List.length_zipIdx]; exact hi)).map (·.2)
 refine h.nodup_iff.2 ?_
 rw [List.map_take, List.zipIdx_map_snd]
 exact (List.take_sublist _ _).nodup List.nodup_range'
end Go.Proofs.Ytnbljcgdgblgoaa.Cf
end

section
namespace Go.Proofs.Ytnbljcgdgblgoaa.P
open Go.RowKit Go.Proofs.YtnbljcgdgblgoaaW.PrintWords Go.Proofs.YtnbljcgdgblgoaaW.PrintLast Go.Proofs.YtnbljcgdgblgoaaW.PrintMore
attribute [local go_sem] max2_int min2_int max_two min_two max_three min_three max_four min_four
set_option linter.unusedVariables false
set_option linter.unusedSimpArgs false
def spec_l09Sort.lt (k : Nat) (x y : List Int) : Bool := spec_l09Less.f k x y == some true
def spec_l09Sort.f (k : Nat) (l : List (List Int)) : Option (List (List Int)) := if l.length ≤ 1000000 ∧ (∀ x ∈ l, ∀ y ∈ l, (spec_l09Less.f k x y).isSome = true) then some (Cf.sortB (spec_l09Sort.lt k) l l.length) else none
theorem spec_l09Sort.sort_congr {lt lt' : List Int → List Int → Bool} {l : List (List Int)} (h : ∀ x ∈ l, ∀ y ∈ l, lt x y = lt' x y) : ∀ i, i ≤ l.length → Cf.sortB lt l i = Cf.sortB lt' l i
 | 0, _ => rfl
 | i + 1, hi => by
  have ih := spec_l09Sort.sort_congr h i (by omega)
  rw [Cf.sortB_succ lt (List.getElem?_eq_getElem (show i < l.length by omega)), Cf.sortB_succ lt' (List.getElem?_eq_getElem (show i < l.length by omega)), ih]
  have hm : ∀ y ∈ Cf.sortB lt' l i, y ∈ l := fun y hy => List.mem_of_mem_take ((Cf.sortB_perm lt' l i (by omega)).mem_iff.1 hy)
  generalize Cf.sortB lt' l i = Z at hm
  have hk : ∀ k, Cf.kpos lt l[i] Z k = Cf.kpos lt' l[i] Z k := by
   intro k
   induction k with
   | zero => rfl
   | succ k ihk =>
    unfold Cf.kpos
    cases hz : Z[k]? with
    | none => rfl
    | some y => simp only [h _ (List.getElem_mem _) y (hm y (List.mem_of_getElem? hz)), ihk]
  unfold Cf.insB; rw [hk]
theorem spec_l09Sort.mono : ∀ a0 k, LeO (spec_l09Sort.f k a0) (spec_l09Sort.f (k + 1) a0) := by
 intro l k r h; unfold spec_l09Sort.f at h ⊢; (split at h); (case isFalse => cases h); rename_i hc
 have up : ∀ x ∈ l, ∀ y ∈ l, spec_l09Less.f (k + 1) x y = spec_l09Less.f k x y := fun x hx y hy => by
  obtain ⟨b, hb⟩ := Option.isSome_iff_exists.1 (hc.2 x hx y hy); rw [hb, spec_l09Less.mono _ _ k _ hb]
 rw [if_pos ⟨hc.1, fun x hx y hy => by rw [up x hx y hy]; exact hc.2 x hx y hy⟩, ← h]; (congr 1); exact spec_l09Sort.sort_congr (fun x hx y hy => by unfold spec_l09Sort.lt; rw [up x hx y hy]) _ (Nat.le_refl _)
theorem spec_l09Sort.callsS (k : Nat) (P0_ : Nat → Prop) (u9_ : Value) (l r : List (List Int)) (w0 w : World) (hB : Below w0.heap.size w0 w) (ho0 : Kd.S (Kd.slice 3 (Kd.int .i64)) 26 w w0.heap.size P0_ u9_ l) (h : spec_l09Sort.f k l = some r) :
  Calls Try.prog 59 #[u9_] w fun e w' => ∃ v0_ : Value, e = .returned (v0_) ∧ Kd.S (Kd.slice 3 (Kd.int .i64)) 26 w' w0.heap.size (fun k_ => P0_ k_ ∨ w.heap.size ≤ k_) v0_ r ∧ Below w.heap.size w w' := by
 unfold spec_l09Sort.f at h; (split at h); (case isFalse => cases h); rename_i hc; obtain rfl := Option.some.inj h; clear h; obtain ⟨A9, c9, e9⟩ := Kd.S_slice ho0; subst e9; obtain ⟨f, H, hH⟩ := Cf.heads_of ho0; have HB := zK_ hB; have HS := zK_ ho0; have HH := zK_ hH; have HLN := zK_ hc.1; have HLE := zK_ hc.2; (have hnb : (l.length : Int) ≤ 1000000 := by have := hc.1; omega); clear hB ho0 hH hc; go_enter Try.func59, Try.ntmps59; (go_wp2_with (first | ((with_reducible refine gate_dst (N := 7) rfl ?_); refine Kd.R_lit (w0 := w) Cf.HK w.heap.size 26 ?hg (N := 7) ?hd (xs := ([] : List (Option Addr × Nat × Nat))) (inner := []) (ok := fun _ => True) (okp := fun _ => True) ?hr ?hp (fun _ hk => hk) trivial (Below.refl _ _) (Nat.le_refl _) (by simp) ?_; (case hd => rfl); (case hg => rfl); (case hr => exact zz9); (case hp => exact (Reps.none _ _)); intro v7 w1 ho hb hg_ hnew_; have HO1 := zK_ ho; have HB1 := zK_ hb; clear ho hb hg_ hnew_))); (go_loopw [3, 10] (fun v3 v10 wr => ∃ i : Nat, v10 = .int .i64 (i : Int) ∧ Aside0 (i ≤ l.length) ∧ Aside0 (Below w.heap.size w wr) ∧ Aside0 (Kd.R Cf.HK 26 wr w.heap.size (fun _ => True) v3 ((Cf.sortB (fun a b : List Int × Nat => spec_l09Sort.lt k a.1 b.1) l.zipIdx i).map (fun z : List Int × Nat => H z.2)))) (fun _ v _ => l.length - (intOf v).toNat)); case atStart => exact ⟨0, rfl, ⟨Nat.zero_le _⟩, HB1, HO1⟩
 case round =>
  clear HO1 HB1; obtain ⟨i, rfl, HI, HBr, HR⟩ := hrel; by_cases hlt : i < l.length; rotate_left
  ·have c0_ : decide ((i : Int) < (l.length : Int)) = false := decide_eq_false (by omega); have c1_ : decide (i < l.length) = false := decide_eq_false hlt; (have hi : i = l.length := by have := HI.out; omega); subst hi; clear hlt; go_wp2; go_ret; have hsm := Cf.sortB_map (fun z : List Int × Nat => z.1) (spec_l09Sort.lt k) l.zipIdx l.length (by rw [List.length_zipIdx]; exact Nat.le_refl _); rw [List.zipIdx_map_fst] at hsm; have hfinal := Cf.HK_S (f := f) (H := H) (ok := P0_) (Kd.R_lower (Kd.R_mono (Kd.R_bound HR.out) (ok' := fun k_ => w.heap.size ≤ k_) fun k_ hk => hk.2.1) HB.out.size) (Cf.sortZ_nodup (Nat.le_refl _)) (fun z hz => Kd.R_below (HH.out z.2 z.1 (Cf.sortZ_mem (Nat.le_refl _) hz)).1 HBr.out); rw [hsm] at hfinal; exact ⟨_, rfl, Kd.S_mono hfinal (fun k_ h => h.symm), HBr.out⟩
  have c0_ : decide ((i : Int) < (l.length : Int)) = true := decide_eq_true (by omega); have c1_ : decide (i < l.length) = true := decide_eq_true hlt; (have p1 : (0 : Int) ≤ (i : Int) := by omega); (have p2 : (i : Int) < (l.length : Int) := by omega); (have hib : (i : Int) ≤ 1000000 := by omega); obtain ⟨g0, cap0, eg, _⟩ := Kd.S_form HS.out (by omega); injection eg with eA _ eC; subst eA; subst eC; obtain ⟨x, hxi⟩ : ∃ x, l[i]? = some x := ⟨_, List.getElem?_eq_getElem hlt⟩; obtain ⟨hRx, hcx⟩ := HH.out i x hxi; have hcx1 := hcx g0 rfl; obtain ⟨Ax, cx, ex⟩ := Kd.R_slice hRx; have HRX := zK_ hRx; (have hcell : wr.cell? ⟨g0, i, none⟩ = some (.slice Ax x.length cx) := by rw [(HBr.out.cell (World.block_lt_of_cell? w _ hcx1)).trans hcx1, ex]); have HEX := zK_ ex; have hZl : (Cf.sortB (fun a b : List Int × Nat => spec_l09Sort.lt k a.1 b.1) l.zipIdx i).length = i := Cf.sortB_len _ _ i (by rw [List.length_zipIdx]; omega); have HZL := zK_ hZl; have HXI := zK_ hxi; have HLT := zK_ hlt; have HZS := zK_ (Cf.sortB_succ (fun a b : List Int × Nat => spec_l09Sort.lt k a.1 b.1) (l := l.zipIdx) (i := i) (x := (x, i)) (by rw [List.getElem?_zipIdx, hxi, Nat.zero_add]; rfl)); have HMEM := zK_ (show ∀ z ∈ (Cf.sortB (fun a b : List Int × Nat => spec_l09Sort.lt k a.1 b.1) l.zipIdx i), l[z.2]? = some z.1 from fun z hz => Cf.sortZ_mem (by omega) hz); clear hRx hcx hcx1 ex hZl hxi hlt; generalize (Cf.sortB (fun a b : List Int × Nat => spec_l09Sort.lt k a.1 b.1) l.zipIdx i) = Z at HR HZL HZS HMEM; (go_upto_region 6 with (first | ((with_reducible refine gate_builtin (b := .append) (xs := #[.tmp 14, .tmp 15]) rfl ?_); at_builtin; refine Kd.R_append Cf.HK (w0 := w) w.heap.size rfl (.tmp 14) (.tmp 15) 34 26 (.slice none 0 0) 24 rfl Try.underlying34 info26 rfl (by decide) (by omega) u3 (Z.map (fun z : List Int × Nat => H z.2)) (none, 0, 0) [.slice none 0 0] (fun _ => True) (fun _ => False) rfl rfl rfl (fun _ hk => hk.elim) (fun _ _ => trivial) HR.out HBr.out (below_size HBr.out) (by have := HZL.out; have := HLN.out; have := HI.out; rw [List.length_map]; omega) ?_; intro vC wC ho hb hg hat; have HOC := zK_ ho; have HBC := zK_ hb; clear ho hb hg hat))); have hfm := HOC.out; (have hlen1 : (Z.map (fun z : List Int × Nat => H z.2) ++ [((none, 0, 0) : Option Addr × Nat × Nat)]).length = i + 1 := by rw [List.length_append, List.length_map, HZL.out]; rfl); obtain ⟨g, cap, eC, hgb, _⟩ := Kd.R_form hfm (by rw [hlen1]; omega); subst eC; have HGB := zK_ hgb; obtain ⟨m1, hm1⟩ : ∃ m1 : Nat, i + 1 = m1 := ⟨_, rfl⟩; have HM1 := zK_ hm1; rw [hlen1, hm1] at hfm; rw [hlen1, hm1]; have HO2 := zK_ hfm; obtain ⟨ki, eki⟩ : ∃ z : Int, wrap64 ((m1 : Int) - 1) = z := ⟨_, rfl⟩; have ekiw : IntKind.i64.wrap ((m1 : Int) - 1) = ki := (i64_w _).trans eki; have HKI := zK_ (show ki = (i : Int) from by rw [← eki]; unfold wrap64; omega); (have hm1b : (m1 : Int) ≤ 1000001 := by omega); clear hfm hgb hm1 HOC HR hcell hlen1; (try go_wp2); go_loopw [6] (fun v6 wr => ∃ (kk : Nat) (hk : List (Option Addr × Nat × Nat)), v6 = .int .i64 (kk : Int) ∧ Aside0 (kk ≤ i ∧ Cf.kpos (fun a b : List Int × Nat => spec_l09Sort.lt k a.1 b.1) (x, i) Z Z.length = Cf.kpos (fun a b : List Int × Nat => spec_l09Sort.lt k a.1 b.1) (x, i) Z kk) ∧ Aside0 (Below w.heap.size w wr) ∧ Aside0 (Kd.R Cf.HK 26 wr w.heap.size (fun _ => True) (.slice (some ⟨g, 0, none⟩) m1 cap) hk ∧ hk.length = i + 1) ∧ Aside0 ((∀ t, t < kk → hk[t]? = (Z[t]?).map (fun z : List Int × Nat => H z.2)) ∧ (∀ t, kk < t → t ≤ i → hk[t]? = (Z[t - 1]?).map (fun z : List Int × Nat => H z.2)))) (fun v _ => (intOf v).toNat)
  case atStart =>
   refine ⟨i, Z.map (fun z : List Int × Nat => H z.2) ++ [(none, 0, 0)], by rw [HKI.out], ⟨Nat.le_refl _, by rw [HZL.out]⟩, HBC, ⟨HO2.out, by rw [List.length_append, List.length_map, HZL.out]; rfl⟩, ⟨fun t ht => ?_, fun t h1 h2 => by omega⟩⟩; rw [List.getElem?_append_left (by rw [List.length_map, HZL.out]; exact ht), List.getElem?_map]
  case round =>
   clear HO2 HBC eki ekiw; obtain ⟨kk, hk, rfl, HK, HBk, HRk, HHk⟩ := hrel; (have hkb : (kk : Int) ≤ 1000000 := by have := HK.out; omega); (have hkm : (kk : Int) < (m1 : Int) := by have := HK.out; have := HM1.out; omega); (have hk0 : (0 : Int) ≤ (kk : Int) := by omega); obtain ⟨hmk, hmf⟩ := Kd.R_celln (none, 0, 0) HRk.out.1 (kk : Int) hk0 hkm; rw [Int.toNat_natCast] at hmk hmf; by_cases hkz : kk = 0
   ·subst hkz; have c4_ : decide (((0 : Nat) : Int) > 0) = false := rfl; (have hfin : Cf.insB (fun a b : List Int × Nat => spec_l09Sort.lt k a.1 b.1) (x, i) Z = Z.take 0 ++ (x, i) :: Z.drop 0 := by unfold Cf.insB; rw [HK.out.2, show Cf.kpos _ (x, i) Z 0 = 0 from rfl]); have hput := Kd.R_putg HRk.out.1 ((0 : Nat) : Int) (H i); rw [Int.toNat_natCast, HEX.out] at hput; have hset := Cf.ins_set (fun z : List Int × Nat => H z.2) (Z := Z) (hk := hk) (k := 0) (x, i) (by rw [HRk.out.2, HZL.out]) (by rw [HZL.out]; exact HK.out.1) HHk.out.1 (fun t h1 h2 => HHk.out.2 t h1 (by rw [HZL.out] at h2; exact h2)); have HPUT := zK_ hput.1; have HSET := zK_ hset; have HFIN := zK_ hfin; clear hput hset hfin; go_wp2; go_roundw
    case rel =>
     refine ⟨i + 1, by go_num, ⟨HLT.out⟩, ⟨below_set HBk.out HGB.out⟩, ⟨?_⟩⟩; rw [HZS.out, HFIN.out, ← HSET.out]; exact HPUT.out
    case measure =>
     have := HLT.out; (simp [intOf]); omega
   obtain ⟨k1, rfl⟩ : ∃ k1, kk = k1 + 1 := ⟨kk - 1, by omega⟩; (have hk1i : k1 < i := by have := HK.out; omega); obtain ⟨z, hz⟩ : ∃ z, Z[k1]? = some z := ⟨_, List.getElem?_eq_getElem (show k1 < Z.length by rw [HZL.out]; exact hk1i)⟩; have hzm := HMEM.out z (List.mem_of_getElem? hz); obtain ⟨hRz, _⟩ := HH.out z.2 z.1 hzm; obtain ⟨Az, cz, ez⟩ := Kd.R_slice hRz; obtain ⟨b, hb⟩ := Option.isSome_iff_exists.1 (HLE.out x (List.mem_of_getElem? HXI.out) z.1 (List.mem_of_getElem? hzm)); generalize hkk : k1 + 1 = kk at hmk hmf hkb hkm hk0 HK HHk ⊢; have c4_ : decide ((kk : Int) > 0) = true := decide_eq_true (by omega); have c5_ : decide (0 < kk) = true := decide_eq_true (by omega); obtain ⟨kz, ekz⟩ : ∃ y : Int, wrap64 ((kk : Int) - 1) = y := ⟨_, rfl⟩; have ekzw : IntKind.i64.wrap ((kk : Int) - 1) = kz := (i64_w _).trans ekz; (have hkz2 : kz = (k1 : Int) := by rw [← ekz]; unfold wrap64; omega); (have q1 : (0 : Int) ≤ kz := by omega); (have q2 : kz < (m1 : Int) := by omega); obtain ⟨hmz, hmzf⟩ := Kd.R_celln (none, 0, 0) HRk.out.1 kz q1 q2; (have hrd : rdOf ((none, 0, 0) : Option Addr × Nat × Nat) hk kz = H z.2 := by unfold rdOf; rw [hkz2, Int.toNat_natCast, List.getD_eq_getElem?_getD, HHk.out.1 k1 (by omega), hz]; rfl); rw [hrd, ez] at hmz; have HZ1 := zK_ hz; have HKK := zK_ hkk; have HKZ := zK_ hkz2; have HEZ := zK_ ez; have HLB := zK_ hb; have HRZ := zK_ (Kd.R_reads' (ez ▸ hRz)); have HRX2 := zK_ (Kd.R_reads' (HEX.out ▸ HRX.out)); clear hz hzm hRz hb hkk hkz2 hmzf hrd ez hkz hk1i; (go_wp2_with fail); refine (spec_l09Less.calls k _ _ x _ _ z.1 b _ (Kd.C_below HRX2.out.2.2 HBk.out) HRX2.out.2.1 (Kd.C_below HRZ.out.2.2 HBk.out) HRZ.out.2.1 HLB.out).mono ?_; rintro e w5 ⟨rfl, hd⟩; have hdb := Drawn0.below hd; have HB5 := zK_ (below_step HBk.out hdb); have HR5 := zK_ (show Kd.R Cf.HK 26 w5 w.heap.size (fun _ => True) (.slice (some ⟨g, 0, none⟩) m1 cap) hk ∧ hk.length = i + 1 from ⟨Kd.R_below HRk.out.1 hdb, HRk.out.2⟩); clear hd hdb hmk hmf hmz HBk HRk; obtain ⟨hmk, hmf⟩ := Kd.R_celln (none, 0, 0) HR5.out.1 (kk : Int) hk0 hkm; rw [Int.toNat_natCast] at hmk hmf; obtain ⟨hmz, hmzf⟩ := Kd.R_celln (none, 0, 0) HR5.out.1 kz q1 q2; (have hrd : rdOf ((none, 0, 0) : Option Addr × Nat × Nat) hk kz = H z.2 := by unfold rdOf; rw [HKZ.out, Int.toNat_natCast, List.getD_eq_getElem?_getD, HHk.out.1 k1 (by have := HKK.out; omega), HZ1.out]; rfl); rw [hrd, HEZ.out] at hmz; (have hkp : Cf.kpos (fun a b : List Int × Nat => spec_l09Sort.lt k a.1 b.1) (x, i) Z kk = if b = true then Cf.kpos (fun a b : List Int × Nat => spec_l09Sort.lt k a.1 b.1) (x, i) Z k1 else kk := by rw [← HKK.out, Cf.kpos_at _ _ HZ1.out]; show (if spec_l09Sort.lt k x z.1 = true then _ else _) = _; unfold spec_l09Sort.lt; rw [HLB.out]; cases b <;> rfl); have HKP := zK_ hkp; have HRD := zK_ hrd; clear hkp hrd hmzf; have HRk := HR5; have HBk := HB5
   cases b with
   | false =>
    (have hfin : Cf.insB (fun a b : List Int × Nat => spec_l09Sort.lt k a.1 b.1) (x, i) Z = Z.take kk ++ (x, i) :: Z.drop kk := by unfold Cf.insB; rw [HK.out.2, HKP.out, if_neg (by simp)]); have hput := Kd.R_putg HRk.out.1 (kk : Int) (H i); rw [Int.toNat_natCast, HEX.out] at hput; have hset := Cf.ins_set (fun z : List Int × Nat => H z.2) (Z := Z) (hk := hk) (k := kk) (x, i) (by rw [HRk.out.2, HZL.out]) (by rw [HZL.out]; exact HK.out.1) HHk.out.1 (fun t h1 h2 => HHk.out.2 t h1 (by rw [HZL.out] at h2; exact h2)); have HPUT := zK_ hput.1; have HSET := zK_ hset; have HFIN := zK_ hfin; clear hput hset hfin; go_wp2; go_roundw
    case rel =>
     refine ⟨i + 1, by go_num, ⟨HLT.out⟩, ⟨below_set HBk.out HGB.out⟩, ⟨?_⟩⟩; rw [HZS.out, HFIN.out, ← HSET.out]; exact HPUT.out
    case measure =>
     have := HLT.out; (simp [intOf]); omega
   | true =>
    have hput := Kd.R_putg HR5.out.1 (kk : Int) (H z.2); rw [Int.toNat_natCast, HEZ.out] at hput; have HPUT := zK_ hput.1; clear hput; go_wp2; go_roundw
    case rel =>
     refine ⟨k1, hk.set kk (H z.2), by rw [HKZ.out], ⟨by have := HK.out; have := HKK.out; omega, by rw [HK.out.2, HKP.out]; simp⟩, ⟨below_set HB5.out HGB.out⟩, ⟨HPUT.out, by rw [List.length_set]; exact HR5.out.2⟩, ⟨fun t ht => ?_, fun t h1 h2 => ?_⟩⟩
     ·rw [List.getElem?_set_ne (by have := HKK.out; omega)]; exact HHk.out.1 t (by have := HKK.out; omega)
     ·by_cases e : t = kk
      ·subst e; rw [List.getElem?_set_self (by have := HR5.out.2; omega), show t - 1 = k1 by have := HKK.out; omega, HZ1.out]; rfl
      ·rw [List.getElem?_set_ne (by omega)]; exact HHk.out.2 t (by have := HKK.out; omega) h2
    case measure =>
     have := HKZ.out; have := HKK.out; (simp [intOf]); omega
def spec_l07Minus.l0 : Nat → List Int → List Int → List Int → Int → Int → Option (List Int)
 | 0, _, _, _, _, _ => none
 | k + 1, x1, x5, x9, fF, d5 => if d5 < fF then (if 0 ≤ d5 then (if d5 < (x9.length : Int) then (if d5 < (x1.length : Int) then (if x5.length < 17592186044416 then (spec_l07Minus.l0 k x1 (x5 ++ [wrap64 ((rd x9 d5) - (rd x1 d5))]) x9 fF (wrap64 (d5 + 1))) else (none)) else (none)) else (none)) else (none)) else (some x5)
def spec_l07Minus.f (k : Nat) (l0 : List Int) (l1 : List Int) : Option (List Int) := spec_l07Minus.l0 k l1 (([] : List Int)) l0 (l0.length : Int) 0
theorem spec_l07Minus.mono_l : ∀ k, (∀ y0 y1 y2 y3 y4, LeO (spec_l07Minus.l0 k y0 y1 y2 y3 y4) (spec_l07Minus.l0 (k + 1) y0 y1 y2 y3 y4))
 | 0 => fun _ _ _ _ _ r h => by simp [spec_l07Minus.l0] at h
 | k + 1 => by
  have ih0 := spec_l07Minus.mono_l k
  ·intro y0 y1 y2 y3 y4
   unfold spec_l07Minus.l0
   exact zm0
theorem spec_l07Minus.mono : ∀ a0 a1 k, LeO (spec_l07Minus.f k a0 a1) (spec_l07Minus.f (k + 1) a0 a1) := by
 intro a0 a1 k; have ih0 := spec_l07Minus.mono_l k; unfold spec_l07Minus.f; exact zm0
theorem spec_l07Minus.calls (k : Nat) (A0 : Option Addr) (c0 : Nat) (l0 : List Int) (A1 : Option Addr) (c1 : Nat) (l1 : List Int) (r : List Int) (w : World) (hr0 : Kd.C (Kd.int .i64) w A0 l0.length l0) (hc0 : l0.length ≤ c0) (hr1 : Kd.C (Kd.int .i64) w A1 l1.length l1) (hc1 : l1.length ≤ c1) (h : spec_l07Minus.f k l0 l1 = some r) :
  Calls Try.prog 101 #[.slice A0 l0.length c0, .slice A1 l1.length c1] w fun e w' => ∃ v0_ : Value, e = .returned (v0_) ∧ Kd.R (Kd.int .i64) 3 w' w.heap.size (fun _ => True) v0_ r ∧ Below w.heap.size w w' := by
 have HR0 := zK_ hr0; have HC0 := zK_ hc0; clear hr0 hc0; have HR1 := zK_ hr1; have HC1 := zK_ hc1; clear hr1 hc1; have HB := zK_ (Below.refl w.heap.size w); have H : (spec_l07Minus.l0 k l1 (([] : List Int)) l0 (l0.length : Int) 0) = some r := h; clear h; obtain ⟨eY, hy_⟩ : ∃ y_ : List Int, y_ = (([] : List Int)) := ⟨_, rfl⟩; (replace H : (spec_l07Minus.l0 k l1 eY l0 (l0.length : Int) 0) = some r := zzY); have gA := zK_ hy_; clear hy_; have H' := zK_ H; clear H; go_enter Try.func101, Try.ntmps101; (go_wp2_with (first | ((with_reducible refine gate_dst (N := 8) rfl ?_); refine Kd.R_lit (Kd.int .i64) _ 3 ?hg (N := 8) ?hd (xs := ([] : List Int)) (inner := []) (ok := fun _ => True) (okp := fun _ => True) ?hr ?hp (fun _ hk => hk) trivial (Below.refl _ _) (Nat.le_refl _) (by simp) ?_; (case hd => rfl); (case hg => rfl); (case hr => exact zz9); (case hp => exact (Reps.none _ _)); intro v102 w3 ho4 hb hg_ hnew_; clear hg_ hnew_; (first | rw [← gA.out] at ho4 | (simp only [Int.reduceToNat] at ho4; rw [← gA.out] at ho4)); have n_ := zA2 (Kd.R_lower ho4 (below_size zz1)) (below_step zz1 hb); clear HB; obtain ⟨j5, HB⟩ := n_; clear hb ho4))); (go_loopg [5, 11] k (fun kq v5 v11 w' => ∃ (aU : List Int) (aM : Int), v11 = .int .i64 aM ∧ Aside0 (spec_l07Minus.l0 kq l1 aU l0 (l0.length : Int) aM = some r) ∧ Aside0 (kq ≤ k) ∧ Aside0 (Kd.R (Kd.int .i64) 3 w' w.heap.size (fun _ => True) v5 aU) ∧ Aside0 (Below w.heap.size w w'))); case atStart => exact ⟨(eY), (0), zz5, H', ⟨Nat.le_refl _⟩, ⟨zz40⟩, ⟨zz1⟩⟩
 case round =>
  clear H'; (try clear c1); (try clear p2); obtain ⟨aU, aM, rfl, HA, HK1, bV, HB⟩ := hrel
  cases gk with
  | zero => exact absurd HA.out (by simp [spec_l07Minus.l0])
  | succ k1 =>
   have H := HA.out; clear HA; simp only [spec_l07Minus.l0] at H; by_cases c5 : aM < (l0.length : Int); rotate_left
   ·rw [if_neg c5] at H; have dS := decide_eq_false c5; clear c5; obtain rfl := Option.some.inj H; go_wp2; go_ret; exact ⟨_, zz7, by (with_reducible repeat (first | apply Kd.R_alloc | apply Kd.R_drewN | apply Kd.R_drew)); exact bV.out, zz1⟩
   rw [if_pos c5] at H; have dS := decide_eq_true c5; clear c5; by_cases c6 : 0 ≤ aM; rotate_left
   ·rw [if_neg c6] at H; exact absurd H (by simp)
   rw [if_pos c6] at H; have eS := decide_eq_true c6; clear c6; by_cases c7 : aM < (l0.length : Int); rotate_left
   ·rw [if_neg c7] at H; exact absurd H (by simp)
   rw [if_pos c7] at H; have d4 := decide_eq_true c7; clear c7; by_cases c8 : aM < (l1.length : Int); rotate_left
   ·rw [if_neg c8] at H; exact absurd H (by simp)
   rw [if_pos c8] at H; have fL := decide_eq_true c8; clear c8; by_cases c9 : aU.length < 17592186044416; rotate_left
   ·rw [if_neg c9] at H; exact absurd H (by simp)
   rw [if_pos c9] at H; have AY := zK_ c9; clear c9; obtain ⟨mE, hy_⟩ : ∃ y_ : List Int, y_ = (aU ++ [wrap64 ((rd l0 aM) - (rd l1 aM))]) := ⟨_, rfl⟩; (replace H : (spec_l07Minus.l0 k1 l1 mE l0 (l0.length : Int) (wrap64 (aM + 1))) = some r := zzY); have lG := zK_ hy_; clear hy_; have H' := zK_ H; clear H; have p104 : 0 ≤ (aM : Int) := of_decide_eq_true zz4; have q104 : aM < (l0.length : Int) := of_decide_eq_true zz4; obtain ⟨fZ, e104, bS⟩ := Kd.at_int HR0.out aM p104 q104; cases e104; replace bS := (HB.out.cell (World.block_lt_of_cell? w _ bS)).trans bS; replace p104 := eq_true p104; replace q104 := eq_true q104; have p105 : 0 ≤ (aM : Int) := of_decide_eq_true zz4; have q105 : aM < (l1.length : Int) := of_decide_eq_true zz4; obtain ⟨cZ, e105, bK⟩ := Kd.at_int HR1.out aM p105 q105; cases e105; replace bK := (HB.out.cell (World.block_lt_of_cell? w _ bK)).trans bK; replace p105 := eq_true p105; replace q105 := eq_true q105; (go_wp2_with (first | ((with_reducible refine gate_builtin (b := .append) (xs := #[.tmp 16, .tmp 23]) rfl ?_); at_builtin; refine Kd.R_append (Kd.int .i64) (w0 := w) w.heap.size rfl (.tmp 16) (.tmp 23) 26 3 (.int .i64 0) 8 rfl Try.underlying26 info3 rfl (by decide) (by omega) u5 aU (wrap64 ((rd l0 aM) - (rd l1 aM))) [.int .i64 (wrap64 ((rd l0 aM) - (rd l1 aM)))] (fun _ => True) (fun _ => False) rfl rfl ?aP (fun _ hk => hk.elim) ?aF ?aO ?aB ?aS ?aL ?_; (case aP => exact rfl); (case aB => exact zz1); (case aF => exact (fun _ _ => trivial)); (case aO => exact zz22); (case aS => exact (below_size zz1)); (case aL => have := AY.out; omega); intro v107 w10 ho hb hg hat; rw [← lG.out] at ho; have n_ := zA2 hb ho; clear HB bV; obtain ⟨HB, rA⟩ := n_; clear ho hb hg hat))); go_roundg k1; (case measure => have := HK1.out; omega); case rel => exact ⟨(mE), (wrap64 (aM + 1)), zz5, H', ⟨zz36⟩, ⟨by (with_reducible repeat (first | apply Kd.R_alloc | apply Kd.R_drewN | apply Kd.R_drew)); exact rA.out⟩, ⟨zz1⟩⟩
mutual
def spec_FullPile.j0 : Nat → Int → Bool → Int → List (S57) → Option (List Int)
 | 0, _, _, _, _ => none
 | k + 1, x1, iQ, aJ, aI => if iQ = true then (some ([] : List Int)) else (spec_FullPile.l0 k x1 (([] : List Int)) 0 aJ aI)
def spec_FullPile.l0 : Nat → Int → List Int → Int → Int → List (S57) → Option (List Int)
 | 0, _, _, _, _, _ => none
 | k + 1, x1, x5, x6, aJ, aI => if x6 < aJ then (if x6 = x1 then (if x5.length < 17592186044416 then (spec_FullPile.l0 k x1 (x5 ++ [0]) (wrap64 (x6 + 1)) aJ aI) else (none)) else ((spec_Valence.f k aJ aI x6).bind fun iT => (if x5.length < 17592186044416 then (spec_FullPile.l0 k x1 (x5 ++ [wrap64 (iT - 1)]) (wrap64 (x6 + 1)) aJ aI) else (none)))) else (some x5)
end
def spec_FullPile.f (k : Nat) (aD : Int) (aC : List (S57)) (a1 : Int) : Option (List Int) := (spec_GraphOk.f k aD aC).bind fun aQ => (if aQ = true then ((spec_l01In.f a1 0 (wrap64 (aD - 1))).bind fun bQ => (spec_FullPile.j0 k a1 (!bQ) aD aC)) else (spec_FullPile.j0 k a1 true aD aC))
theorem spec_FullPile.mono_l : ∀ k, (∀ y0 y1 y2 y3, LeO (spec_FullPile.j0 k y0 y1 y2 y3) (spec_FullPile.j0 (k + 1) y0 y1 y2 y3)) ∧ (∀ y0 y1 y2 y3 y4, LeO (spec_FullPile.l0 k y0 y1 y2 y3 y4) (spec_FullPile.l0 (k + 1) y0 y1 y2 y3 y4))
 | 0 => ⟨fun _ _ _ _ r h => by simp [spec_FullPile.j0] at h, fun _ _ _ _ _ r h => by simp [spec_FullPile.l0] at h⟩
 | k + 1 => by
  obtain ⟨ih0, ih1⟩ := spec_FullPile.mono_l k
  refine ⟨?_, ?_⟩
  ·intro y0 y1 y2 y3
   unfold spec_FullPile.j0
   exact zm10
  ·intro y0 y1 y2 y3 y4
   unfold spec_FullPile.l0
   exact zm10
theorem spec_FullPile.mono : ∀ a0 a1 a2 k, LeO (spec_FullPile.f k a0 a1 a2) (spec_FullPile.f (k + 1) a0 a1 a2) := by
 intro a0 a1 a2 k; obtain ⟨ih0, ih1⟩ := spec_FullPile.mono_l k; unfold spec_FullPile.f; exact zm10
theorem spec_FullPile.calls (k : Nat) (aD : Int) (aH : Option Addr) (aG : Nat) (aC : List (S57)) (a1 : Int) (r : List Int) (w : World) (hr0_1 : Kd.C k57 w aH aC.length aC) (hc0_1 : aC.length ≤ aG) (h : spec_FullPile.f k aD aC a1 = some r) :
  Calls Try.prog 102 #[.agg #[.int .i64 aD, .slice aH aC.length aG], .int .i64 a1] w fun e w' => ∃ v0_ : Value, e = .returned (v0_) ∧ Kd.R (Kd.int .i64) 3 w' w.heap.size (fun _ => True) v0_ r ∧ Below w.heap.size w w' := by
 have hu25 := Try.underlying25; have bJ := zK_ hr0_1; have bE := zK_ hc0_1; clear hr0_1 hc0_1; have HB := zK_ (Below.refl w.heap.size w); have H : ((spec_GraphOk.f k aD aC).bind fun aQ => (if aQ = true then ((spec_l01In.f a1 0 (wrap64 (aD - 1))).bind fun bQ => (spec_FullPile.j0 k a1 (!bQ) aD aC)) else (spec_FullPile.j0 k a1 true aD aC))) = some r := h; clear h; have HC3 := zK_ H; clear H; go_enter Try.func102, Try.ntmps102; (go_upto_region 1 with (first | ((with_reducible refine gate_dst (N := 2) rfl ?_); refine box_event ?hg (N := 2) ?hd (cs := #[.int .i64 aD, .slice aH aC.length aG]) (t := 25) ?hr ?_; (case hd => rfl); (case hg => rfl); (case hr => exact zz9); intro aE hg w4 hbox hb; have n_ := zA4 (below_step zz1 hb) hbox (zz10 : w.heap.size ≤ aE) (zz10 : w.heap.size ≤ aE); clear HB; obtain ⟨HB, aA, GW101, GE101⟩ := n_; clear hb hbox hg))); (try simp only [Act.put, List.setIfInBounds_toArray, List.set_cons_zero, List.set_cons_succ]); go_cut [17] (fun v17 wc => ∃ (kq : Nat) (aN : Bool), v17 = .bool aN ∧ Aside0 (spec_FullPile.j0 kq a1 aN aD aC = some r) ∧ Aside0 (kq ≤ k) ∧ Aside0 (wc.heap[aE]? = some (.cells #[.int .i64 aD, (.slice aH aC.length aG)] 25 (0, 0))) ∧ Aside0 (Below w.heap.size w wc))
 case first =>
  have H := HC3.out; clear HC3; obtain ⟨aQ, A50, H⟩ := zO_ H; (try dsimp only at H); have A5 := zK_ A50; clear A50; by_cases c6 : aQ = true; rotate_left
  ·replace c6 := Bool.eq_false_iff.mpr c6; subst c6; rw [if_neg (show ¬ (false = true) by decide)] at H; have H' := zK_ H; clear H; have jB := zC20 aA; have jA := zC21 aA; have i7 := blk_frozen aA.out 0; have i6 := blk_frozen aA.out 1; (go_wp2_with (first | ((with_reducible refine gate_callee (f := 55) rfl ?_); refine goesL_ (some 8) rfl rfl Try.func55 (by kernel_rfl) rfl #[.agg #[.int .i64 aD, .slice aH aC.length aG]] rfl zz3 ?_; (with_reducible refine (spec_GraphOk.calls k aD _ _ aC false _ ?side1 ?side2 A5.out).mono ?_); (case side1 => exact zz6); (case side2 => exact bE.out); rintro e w12 ⟨rfl, hb⟩; refine ⟨_, rfl, ?_⟩; have n_ := zA2 (blk_below (g := aE) (o := .cells #[.int .i64 aD, .slice aH aC.length aG] 25 (0, 0)) zz2 hb) (below_step zz0 hb); clear aA HB; obtain ⟨aA, HB⟩ := n_; clear hb))); (go_meet); case rel => exact ⟨_, (true), zz5, H', ⟨by first | omega | exact Nat.le_refl _⟩, ⟨zz2⟩, ⟨zz0⟩⟩
  subst c6; rw [if_pos rfl] at H; obtain ⟨bQ, A70, H⟩ := zO_ H; (try dsimp only at H); have A7 := zK_ A70; clear A70; have H' := zK_ H; clear H; have gK := zC20 aA; have gJ := zC21 aA; have gI := blk_frozen aA.out 0; have gH := blk_frozen aA.out 1; (go_wp2_with (first | ((with_reducible refine gate_callee (f := 55) rfl ?_); refine goesL_ (some 8) rfl rfl Try.func55 (by kernel_rfl) rfl #[.agg #[.int .i64 aD, .slice aH aC.length aG]] rfl zz3 ?_; (with_reducible refine (spec_GraphOk.calls k aD _ _ aC true _ ?side1 ?side2 A5.out).mono ?_); (case side1 => exact zz6); (case side2 => exact bE.out); rintro e w9 ⟨rfl, hb⟩; refine ⟨_, rfl, ?_⟩; have n_ := zA2 (blk_below (g := aE) (o := .cells #[.int .i64 aD, .slice aH aC.length aG] 25 (0, 0)) zz2 hb) (below_step zz0 hb); clear aA HB; obtain ⟨aA, HB⟩ := n_; clear hb; have cH := zC20 aA; have cG := zC21 aA; have cE := blk_frozen aA.out 0; have cC := blk_frozen aA.out 1) | (go_at_call 56; (with_reducible refine (spec_l01In.calls a1 0 (wrap64 (aD - 1)) bQ _ A7.out).mono ?_); rintro e w' ⟨rfl, ⟨nd, rfl⟩⟩))); (go_meet); case rel => exact ⟨_, (!bQ), zz5, H', ⟨by first | omega | exact Nat.le_refl _⟩, ⟨zz2⟩, ⟨zz0⟩⟩
 case rest =>
  clear HC3; (try clear c1); (try clear p2); (try clear c5); (try clear c6); (try clear p6); (try clear c10); (try clear cH); (try clear cG); (try clear jB); (try clear jA); (try clear gK); (try clear gJ); (try clear cE); (try clear cC); (try clear i7); (try clear i6); (try clear gI); (try clear gH); obtain ⟨kq, aN, rfl, HA, HJ2, aA, HB⟩ := hcut
  cases kq with
  | zero => exact absurd HA.out (by simp [spec_FullPile.j0])
  | succ kj2 =>
   have H := HA.out; clear HA; simp only [spec_FullPile.j0] at H; by_cases c13 : aN = true
   ·subst c13; rw [if_pos rfl] at H; obtain rfl := Option.some.inj H; go_wp2; go_ret; exact ⟨_, zz7, zz43, zz0⟩
   replace c13 := Bool.eq_false_iff.mpr c13; subst c13; rw [if_neg (show ¬ (false = true) by decide)] at H; obtain ⟨pH, hy_⟩ : ∃ y_ : List Int, y_ = (([] : List Int)) := ⟨_, rfl⟩; (replace H : (spec_FullPile.l0 kj2 a1 pH 0 aD aC) = some r := zzY); have o5 := zK_ hy_; clear hy_; have H' := zK_ H; clear H; (go_wp2_with (first | ((with_reducible refine gate_dst (N := 18) rfl ?_); refine Kd.R_lit (Kd.int .i64) _ 3 ?hg (N := 18) ?hd (xs := ([] : List Int)) (inner := []) (ok := fun _ => True) (okp := fun _ => True) ?hr ?hp (fun _ hk => hk) trivial (Below.refl _ _) (Nat.le_refl _) (by simp) ?_; (case hd => rfl); (case hg => rfl); (case hr => exact zz9); (case hp => exact (Reps.none _ _)); intro v105 w14 ho15 hb hg_ hnew_; clear hg_ hnew_; (first | rw [← o5.out] at ho15 | (simp only [Int.reduceToNat] at ho15; rw [← o5.out] at ho15)); have n_ := zA3 (Kd.R_lower ho15 (below_size zz0)) (blk_below (g := aE) (o := .cells #[.int .i64 aD, .slice aH aC.length aG] 25 (0, 0)) zz2 hb) (below_step zz0 hb); clear aA HB; obtain ⟨eE, aA, HB⟩ := n_; clear hb ho15))); (go_loopg [5, 6] kj2 (fun kq v5 v6 w' => ∃ (bY : List Int) (eZ : Int), v6 = .int .i64 eZ ∧ Aside0 (spec_FullPile.l0 kq a1 bY eZ aD aC = some r) ∧ Aside0 (kq ≤ kj2) ∧ Aside0 (Kd.R (Kd.int .i64) 3 w' w.heap.size (fun _ => True) v5 bY) ∧ Aside0 (w'.heap[aE]? = some (.cells #[.int .i64 aD, (.slice aH aC.length aG)] 25 (0, 0))) ∧ Aside0 (Below w.heap.size w w'))); case atStart => exact ⟨(pH), (0), zz5, H', ⟨Nat.le_refl _⟩, ⟨by (with_reducible repeat (first | apply Kd.R_alloc | apply Kd.R_drewN | apply Kd.R_drew)); exact eE.out⟩, ⟨zz2⟩, ⟨zz0⟩⟩
   case round =>
    clear H'; (try clear c1); (try clear p2); (try clear c5); (try clear c6); (try clear p6); (try clear c10); (try clear c13); (try clear cH); (try clear cG); (try clear jB); (try clear jA); (try clear gK); (try clear gJ); (try clear cE); (try clear cC); (try clear i7); (try clear i6); (try clear gI); (try clear gH); (try clear p2); (try clear p6); obtain ⟨bY, eZ, rfl, HA, HK2, bV, aA, HB⟩ := hrel
    cases gk with
    | zero => exact absurd HA.out (by simp [spec_FullPile.l0])
    | succ k2 =>
     have H := HA.out; clear HA; simp only [spec_FullPile.l0] at H; by_cases c16 : eZ < aD; rotate_left
     ·rw [if_neg c16] at H; have iX := decide_eq_false c16; clear c16; obtain rfl := Option.some.inj H; have jT := zC20 aA; have jS := zC21 aA; have jN := blk_frozen aA.out 0; have jM := blk_frozen aA.out 1; go_wp2; go_ret; exact ⟨_, zz7, by (with_reducible repeat (first | apply Kd.R_alloc | apply Kd.R_drewN | apply Kd.R_drew)); exact bV.out, zz0⟩
     rw [if_pos c16] at H; have iX := decide_eq_true c16; clear c16; by_cases c17 : eZ = a1
     ·rw [if_pos c17] at H; have gN : (eZ == a1) = true := beq_iff_eq.mpr c17; have o2 : (eZ != a1) = false := bne_eq_false_iff_eq.mpr c17; clear c17; by_cases c18 : bY.length < 17592186044416; rotate_left
      ·rw [if_neg c18] at H; exact absurd H (by simp)
      rw [if_pos c18] at H; have vV := zK_ c18; clear c18; obtain ⟨hY, hy_⟩ : ∃ y_ : List Int, y_ = (bY ++ [0]) := ⟨_, rfl⟩; (replace H : (spec_FullPile.l0 k2 a1 hY (wrap64 (eZ + 1)) aD aC) = some r := zzY); have iG := zK_ hy_; clear hy_; have H' := zK_ H; clear H; have jV := zC20 aA; have jU := zC21 aA; have jP := blk_frozen aA.out 0; have jO := blk_frozen aA.out 1; (go_wp2_with (first | ((with_reducible refine gate_builtin (b := .append) (xs := #[.tmp 28, .tmp 29]) rfl ?_); at_builtin; refine Kd.R_append (Kd.int .i64) (w0 := w) w.heap.size rfl (.tmp 28) (.tmp 29) 26 3 (.int .i64 0) 8 rfl Try.underlying26 info3 rfl (by decide) (by omega) u5 bY 0 [.int .i64 0] (fun _ => True) (fun _ => False) rfl rfl ?aP (fun _ hk => hk.elim) ?aF ?aO ?aB ?aS ?aL ?_; (case aP => exact rfl); (case aB => exact zz0); (case aF => exact (fun _ _ => trivial)); (case aO => exact zz22); (case aS => exact (below_size zz0)); (case aL => have := vV.out; omega); intro v108 w20 ho hb hg hat; rw [← iG.out] at ho; have n_ := zA3 (blk_grown (g := aE) (o := .cells #[.int .i64 aD, .slice aH aC.length aG] 25 (0, 0)) zz2 hg (Kd.R_ne bV.out aA.out (by decide))) hb ho; clear aA HB bV; obtain ⟨aA, HB, eB⟩ := n_; clear ho hb hg hat))); go_roundg k2; (case measure => have := HJ2.out; have := HK2.out; omega); case rel => exact ⟨(hY), (wrap64 (eZ + 1)), zz5, H', ⟨by have := HJ2.out; have := HK2.out; omega⟩, ⟨by (with_reducible repeat (first | apply Kd.R_alloc | apply Kd.R_drewN | apply Kd.R_drew)); exact eB.out⟩, ⟨zz2⟩, ⟨zz0⟩⟩
     rw [if_neg c17] at H; have gN : (eZ == a1) = false := beq_eq_false_iff_ne.mpr c17; have o2 : (eZ != a1) = true := bne_iff_ne.mpr c17; obtain ⟨iT, A210, H⟩ := zO_ H; (try dsimp only at H); have A21 := zK_ A210; clear A210; by_cases c22 : bY.length < 17592186044416; rotate_left
     ·rw [if_neg c22] at H; exact absurd H (by simp)
     rw [if_pos c22] at H; have vS := zK_ c22; clear c22; obtain ⟨tU, hy_⟩ : ∃ y_ : List Int, y_ = (bY ++ [wrap64 (iT - 1)]) := ⟨_, rfl⟩; (replace H : (spec_FullPile.l0 k2 a1 tU (wrap64 (eZ + 1)) aD aC) = some r := zzY); have vP := zK_ hy_; clear hy_; have H' := zK_ H; clear H; have kQ := zC20 aA; have kP := zC21 aA; have kK := blk_frozen aA.out 0; have kJ := blk_frozen aA.out 1; (go_wp2_with (first | ((with_reducible refine gate_callee (f := 73) rfl ?_); refine goesL_ (some 34) rfl rfl Try.func73 (by kernel_rfl) rfl #[.agg #[.int .i64 aD, .slice aH aC.length aG], .int .i64 eZ] rfl zz3 ?_; (with_reducible refine (spec_Valence.calls k2 aD _ _ aC eZ iT _ ?side1 ?side2 A21.out).mono ?_); (case side1 => exact zz6); (case side2 => exact bE.out); rintro e w24 ⟨rfl, hb⟩; refine ⟨_, rfl, ?_⟩; have n_ := zA3 (Kd.R_below zz22 hb) (blk_below (g := aE) (o := .cells #[.int .i64 aD, .slice aH aC.length aG] 25 (0, 0)) zz2 hb) (below_step zz0 hb); clear bV aA HB; obtain ⟨bV, aA, HB⟩ := n_; clear hb) | ((with_reducible refine gate_builtin (b := .append) (xs := #[.tmp 31, .tmp 36]) rfl ?_); at_builtin; refine Kd.R_append (Kd.int .i64) (w0 := w) w.heap.size rfl (.tmp 31) (.tmp 36) 26 3 (.int .i64 0) 8 rfl Try.underlying26 info3 rfl (by decide) (by omega) u5 bY (wrap64 (iT - 1)) [.int .i64 (wrap64 (iT - 1))] (fun _ => True) (fun _ => False) rfl rfl ?aP (fun _ hk => hk.elim) ?aF ?aO ?aB ?aS ?aL ?_; (case aP => exact rfl); (case aB => exact zz0); (case aF => exact (fun _ _ => trivial)); (case aO => exact zz22); (case aS => exact (below_size zz0)); (case aL => have := vS.out; omega); intro v112 w25 ho hb hg hat; rw [← vP.out] at ho; have n_ := zA3 (blk_grown (g := aE) (o := .cells #[.int .i64 aD, .slice aH aC.length aG] 25 (0, 0)) zz2 hg (Kd.R_ne bV.out aA.out (by decide))) hb ho; clear aA HB bV; obtain ⟨aA, HB, wG⟩ := n_; clear ho hb hg hat))); go_roundg k2; (case measure => have := HJ2.out; have := HK2.out; omega); case rel => exact ⟨(tU), (wrap64 (eZ + 1)), zz5, H', ⟨by have := HJ2.out; have := HK2.out; omega⟩, ⟨by (with_reducible repeat (first | apply Kd.R_alloc | apply Kd.R_drewN | apply Kd.R_drew)); exact wG.out⟩, ⟨zz2⟩, ⟨zz0⟩⟩
end Go.Proofs.Ytnbljcgdgblgoaa.P
end

