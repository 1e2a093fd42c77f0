/- A part of the proof of FnExactRowOfOne. -/
import Derived.Test.YtkcbinohpdhbgaaProg
import Derived.Below
import Derived.Deep.Draws
import Derived.Deep.AppendLies
import Derived.Maps.AppendAt
import Derived.OwnWalk
import Derived.Laws.BytesArg
import Derived.Laws.MakeOwn
import Derived.Laws.OwnMore
import Derived.Deep.OwnRows
import Derived.Tactics
import Derived.Lib.ConvBytes
import Derived.Laws.Slices
import Derived.WalkKit
import Derived.KernelRfl
import Derived.RowKit3
import Derived.Deep.LoopGhost
import Derived.Deep.QuietTactic
import Derived.BigQuiet
import Derived.WideLaws
import Derived.Deep.DeepCutAuto
import Derived.Deep.CutBlock
import Derived.Deep.RegionHeld3
import Derived.Laws.Rows
import Derived.Lib.AppendStr
import Derived.ArgAppend
import Derived.Laws.IdiomCopy
import Derived.OrdersHeld
import Derived.Laws.BitsLemmas
import Derived.RowKit
import Derived.Test.YtkcbinohpdhbgaaBFnExactRowOfOneWWords
import Derived.Test.YtkcbinohpdhbgaaBFnExactRowOfOneWLast
import Derived.Test.YtkcbinohpdhbgaaBFnExactRowOfOneWApart
import Derived.Test.YtkcbinohpdhbgaaBFnExactRowOfOneWFoot
import Derived.Test.YtkcbinohpdhbgaaBFnExactRowOfOneWKept
import Derived.Test.YtkcbinohpdhbgaaBFnExactRowOfOneWShare
import Derived.Test.YtkcbinohpdhbgaaBFnExactRowOfOneWN
import Derived.Laws.StructEq
import Derived.Test.YtkcbinohpdhbgaaBFnExactRowOfOneWRepsOne
import Derived.Test.YtkcbinohpdhbgaaBFnExactRowOfOneWGuard
import Derived.Test.YtkcbinohpdhbgaaBFnExactRowOfOneWMore
import Derived.Deep.Slices
import Derived.Lib.SmallJoins
import Derived.ChangeSame
import Derived.Test.YtkcbinohpdhbgaaRows
import Derived.JoinedOf
section
namespace Go.Proofs.Ytkcbinohpdhbgaa.Cf
set_option linter.unusedVariables false
set_option linter.unusedSimpArgs false
/-- An edge. -/
structure E where
  f0 : Int
  f1 : Int
  deriving DecidableEq
end Go.Proofs.Ytkcbinohpdhbgaa.Cf
end

section
namespace Go.Proofs.Ytkcbinohpdhbgaa.P
open Go.RowKit Go.Proofs.YtkcbinohpdhbgaaW.PrintWords Go.Proofs.YtkcbinohpdhbgaaW.PrintLast Go.Proofs.YtkcbinohpdhbgaaW.PrintMore
attribute [local go_sem] max2_int min2_int max_two min_two max_three min_three max_four min_four
set_option linter.unusedVariables false
set_option linter.unusedSimpArgs false
theorem info3 : (Try.prog.info? 3).map (fun i => (i.zero, i.size, i.bytes)) = some (some (.int .i64 0), 1, 8) := by kernel_rfl
theorem info26 : (Try.prog.info? 26).map (fun i => (i.zero, i.size, i.bytes)) = some (some (.slice none 0 0), 1, 24) := by kernel_rfl
def rd_L3 (xs : List (List Int)) (i : Int) : (List Int) := xs.getD i.toNat ([] : List Int)
theorem at_L3 {w : World} {A : Option Addr} {n : Nat} {xs : List (List Int)} (h : Kd.C (Kd.slice 3 (Kd.int .i64)) w A n xs) (i : Int) (h0 : 0 ≤ i) (h1 : i < n) : ∃ ad A0 c0, A = some ad ∧ w.cell? (ad.add i.toNat) = some (.slice A0 (rd_L3 xs i).length c0) ∧ (rd_L3 xs i).length ≤ c0 ∧ (Kd.int .i64).C w A0 (rd_L3 xs i).length (rd_L3 xs i) := by
  obtain ⟨ad, c, e, _, hK, hc0⟩ := Kd.C_get h ([] : List Int) i h0 h1
  have hc : ∀ j u, c[j]? = some u → w.cell? (ad.add (i.toNat * 1 + j)) = some u := hc0
  obtain ⟨A0, c0, rfl, l0, g0⟩ := hK
  exact ⟨ad, A0, c0, e, by have hq := hc 0 _ rfl; rwa [Nat.mul_one, Nat.add_zero] at hq, l0, g0⟩
end Go.Proofs.Ytkcbinohpdhbgaa.P
end

section
namespace Go.Proofs.Ytkcbinohpdhbgaa.P
open Go.RowKit Go.Proofs.YtkcbinohpdhbgaaW.PrintWords Go.Proofs.YtkcbinohpdhbgaaW.PrintLast
theorem zA2 {p0 p1 : Prop} (h0 : p0) (h1 : p1) : Aside0 p0 ∧ Aside0 p1 := ⟨⟨h0⟩, ⟨h1⟩⟩
theorem zA3 {p0 p1 p2 : Prop} (h0 : p0) (h1 : p1) (h2 : p2) : Aside0 p0 ∧ Aside0 p1 ∧ Aside0 p2 := ⟨⟨h0⟩, ⟨h1⟩, ⟨h2⟩⟩
theorem zzY {p : Prop} (h : p := by first | (rw [hy_]; with_reducible exact H) | (have H2_ := (Option.bind_some _ _).symm.trans H; rw [hy_]; with_reducible exact H2_) | (have H2_ := (Option.bind_some _ _).symm.trans H; with_reducible exact H2_) | with_reducible exact H | (rw [hy_]; exact H) | exact H) : p := h
theorem zm0 {p : Prop} (h : p := by repeat' first | (with_reducible apply ih0) | (with_reducible exact LeO.refl _) | (with_reducible exact LeO.none _) | (with_reducible refine LeO.ite ?_ ?_) | (with_reducible refine LeO.bind ?_ (fun _ => ?_)) | apply ih0 | exact LeO.none _ | refine LeO.ite ?_ ?_ | refine LeO.bind ?_ (fun _ => ?_)) : p := h
theorem zm1 {p : Prop} (h : p := by repeat' first | (with_reducible apply ih0) | (with_reducible apply ih1) | (with_reducible apply ih2) | (with_reducible apply ih3) | (with_reducible exact LeO.refl _) | (with_reducible exact LeO.none _) | (with_reducible refine LeO.ite ?_ ?_) | (with_reducible refine LeO.bind ?_ (fun _ => ?_)) | apply ih0 | apply ih1 | apply ih2 | apply ih3 | exact LeO.none _ | refine LeO.ite ?_ ?_ | refine LeO.bind ?_ (fun _ => ?_)) : p := h
theorem zm2 {p : Prop} (h : p := by repeat' first | (with_reducible apply ih0) | (with_reducible apply ih1) | (with_reducible apply ih2) | (with_reducible apply impl_trimmed.mono) | (with_reducible exact LeO.refl _) | (with_reducible exact LeO.none _) | (with_reducible refine LeO.ite ?_ ?_) | (with_reducible refine LeO.bind ?_ (fun _ => ?_)) | apply ih0 | apply ih1 | apply ih2 | apply impl_trimmed.mono | exact LeO.none _ | refine LeO.ite ?_ ?_ | refine LeO.bind ?_ (fun _ => ?_)) : p := h
theorem zm3 {p : Prop} (h : p := by repeat' first | (with_reducible apply ih0) | (with_reducible apply laws_toIntS.mono) | (with_reducible exact LeO.refl _) | (with_reducible exact LeO.none _) | (with_reducible refine LeO.ite ?_ ?_) | (with_reducible refine LeO.bind ?_ (fun _ => ?_)) | apply ih0 | apply laws_toIntS.mono | exact LeO.none _ | refine LeO.ite ?_ ?_ | refine LeO.bind ?_ (fun _ => ?_)) : p := h
theorem zm4 {p : Prop} (h : p := by repeat' first | (with_reducible apply ih0) | (with_reducible apply laws_eqIntS.mono) | (with_reducible exact LeO.refl _) | (with_reducible exact LeO.none _) | (with_reducible refine LeO.ite ?_ ?_) | (with_reducible refine LeO.bind ?_ (fun _ => ?_)) | apply ih0 | apply laws_eqIntS.mono | exact LeO.none _ | refine LeO.ite ?_ ?_ | refine LeO.bind ?_ (fun _ => ?_)) : p := h
theorem zz0 {p : Prop} (h : p := by repeat (first | (with_reducible first | exact HB.out | apply below_alloc | apply pw_below_drewN | apply below_drew1) | exact HB.out)) : p := h
theorem zz1 {p : Prop} (h : p := by first | (with_reducible assumption) | assumption) : p := h
theorem zz2 {p : Prop} (h : p := by first | rfl | (simp; done) | (simp [*]; done)) : p := h
theorem zz3 {p : Prop} (h : p := by (with_reducible repeat (first | apply Kd.R_alloc | apply Kd.R_drewN | apply Kd.R_drew)); exact HO_3.out) : p := h
theorem zz4 {p : Prop} (h : p := by repeat (first | exact HR101_0.out | (with_reducible refine Kd.C_alloc ?_ _) | (with_reducible refine Kd.C_drewN ?_ _) | (with_reducible refine Kd.C_drew ?_))) : p := h
theorem zz5 {p : Prop} (h : p := by repeat (first | exact HR102_0.out | (with_reducible refine Kd.C_alloc ?_ _) | (with_reducible refine Kd.C_drewN ?_ _) | (with_reducible refine Kd.C_drew ?_))) : p := h
theorem zz6 {p : Prop} (h : p := by first | rfl | (simp [errW_none, errW_some] <;> rfl) | (simp [*, errW_none, errW_some] <;> rfl)) : p := h
theorem zz7 {p : Prop} (h : p := by (try simp only [List.map_toArray, List.map_cons, List.map_nil]); first | done | rfl | (simp only [List.length_drop, List.length_take]; rfl)) : p := h
end Go.Proofs.Ytkcbinohpdhbgaa.P
namespace Go.Proofs.Ytkcbinohpdhbgaa.P
open Go.RowKit Go.Proofs.YtkcbinohpdhbgaaW.PrintWords Go.Proofs.YtkcbinohpdhbgaaW.PrintLast Go.Proofs.YtkcbinohpdhbgaaW.PrintMore
attribute [local go_sem] max2_int min2_int max_two min_two max_three min_three max_four min_four
set_option linter.unusedVariables false
set_option linter.unusedSimpArgs false
def laws_eqIntS.l0 : Nat → List Int → List Int → Int → Option (Bool)
 | 0, _, _, _ => none
 | k + 1, x0, x1, x5 => if x5 < (x0.length : Int) then (if 0 ≤ x5 then (if x5 < (x1.length : Int) then (if (rd x0 x5) = (rd x1 x5) then (laws_eqIntS.l0 k x0 x1 (wrap64 (x5 + 1))) else (some false)) else (none)) else (none)) else (some true)
def laws_eqIntS.f (k : Nat) (l0 : List Int) (l1 : List Int) : Option (Bool) := if (l0.length : Int) = (l1.length : Int) then (laws_eqIntS.l0 k l0 l1 0) else (some false)
theorem laws_eqIntS.mono_l : ∀ k, (∀ y0 y1 y2, LeO (laws_eqIntS.l0 k y0 y1 y2) (laws_eqIntS.l0 (k + 1) y0 y1 y2))
 | 0 => fun _ _ _ r h => by simp [laws_eqIntS.l0] at h
 | k + 1 => by
  have ih0 := laws_eqIntS.mono_l k
  ·intro y0 y1 y2
   unfold laws_eqIntS.l0
   exact zm0
theorem laws_eqIntS.mono : ∀ a0 a1 k, LeO (laws_eqIntS.f k a0 a1) (laws_eqIntS.f (k + 1) a0 a1) := by
 intro a0 a1 k; have ih0 := laws_eqIntS.mono_l k; unfold laws_eqIntS.f; exact zm0
set_option maxHeartbeats 8000000 in
set_option maxRecDepth 100000 in
theorem laws_eqIntS.calls (k : Nat) (A0 : Option Addr) (c0 : Nat) (l0 : List Int) (A1 : Option Addr) (c1 : Nat) (l1 : List Int) (r : Bool) (w : World) (hr0 : Kd.C (Kd.int .i64) w A0 l0.length l0) (hc0 : l0.length ≤ c0) (hr1 : Kd.C (Kd.int .i64) w A1 l1.length l1) (hc1 : l1.length ≤ c1) (h : laws_eqIntS.f k l0 l1 = some r) :
  Calls Try.prog 11 #[.slice A0 l0.length c0, .slice A1 l1.length c1] w fun e w' => e = .returned (.bool r) ∧ Drawn0 w w' := by
 have HR0 := Aside0.mk hr0; have HC0 := Aside0.mk hc0; clear hr0 hc0; have HR1 := Aside0.mk hr1; have HC1 := Aside0.mk hc1; clear hr1 hc1; have H : (if (l0.length : Int) = (l1.length : Int) then (laws_eqIntS.l0 k l0 l1 0) else (some false)) = some r := h; clear h; by_cases c3 : (l0.length : Int) = (l1.length : Int); rotate_left
 ·rw [if_neg c3] at H; have c3b0 : ((l0.length : Int) == (l1.length : Int)) = false := beq_eq_false_iff_ne.mpr c3; have c3b1 : ((l0.length : Int) != (l1.length : Int)) = true := bne_iff_ne.mpr c3; (have c3b2 : (l0.length == l1.length) = false := by first | simpa using c3 | (simp at c3 ⊢; omega)); obtain rfl := Option.some.inj H; go_enter Try.func11, Try.ntmps11; go_wp2; (repeat (go_quiet (fail); try go_wp2)); go_ret; exact ⟨zz2, by repeat (first | exact Drawn0.refl _ | apply Drawn0.step)⟩
 rw [if_pos c3] at H; have c3b0 : ((l0.length : Int) == (l1.length : Int)) = true := beq_iff_eq.mpr c3; have c3b1 : ((l0.length : Int) != (l1.length : Int)) = false := bne_eq_false_iff_eq.mpr c3; (have c3b2 : (l0.length == l1.length) = true := by first | simpa using c3 | (simp at c3 ⊢; omega)); clear c3; have H' := Aside0.mk H; clear H; go_enter Try.func11, Try.ntmps11; go_wp2; (repeat (go_quiet (fail); try go_wp2)); (go_loopg [5] k (fun kq v5 w' => ∃ (x5_1 : Int), v5 = .int .i64 x5_1 ∧ Aside0 (laws_eqIntS.l0 kq l0 l1 x5_1 = some r) ∧ Aside0 (kq ≤ k) ∧ Drawn0 w w')); case atStart => exact ⟨(0), zz2, H', ⟨Nat.le_refl _⟩, by repeat (first | exact Drawn0.refl _ | apply Drawn0.step)⟩
 case round =>
  clear H'; (try clear c1); (try clear p2); (try clear c3); (try clear c3b0); (try clear c3b1); (try clear c3b2); obtain ⟨x5_1, rfl, HA, HK1, ⟨m1, rfl⟩⟩ := hrel
  cases gk with
  | zero => exact absurd HA.out (by simp [laws_eqIntS.l0])
  | succ k1 =>
   have H := HA.out; clear HA; simp only [laws_eqIntS.l0] at H; by_cases c4 : x5_1 < (l0.length : Int); rotate_left
   ·rw [if_neg c4] at H; have c4b0 := decide_eq_false c4; clear c4; obtain rfl := Option.some.inj H; go_wp2; (repeat (go_quiet (fail); try go_wp2)); go_ret; exact ⟨zz2, by repeat (first | exact Drawn0.refl _ | apply Drawn0.step)⟩
   rw [if_pos c4] at H; have c4b0 := decide_eq_true c4; clear c4; by_cases c5 : 0 ≤ x5_1; rotate_left
   ·rw [if_neg c5] at H; exact absurd H (by simp)
   rw [if_pos c5] at H; have c5b0 := decide_eq_true c5; clear c5; by_cases c6 : x5_1 < (l1.length : Int); rotate_left
   ·rw [if_neg c6] at H; exact absurd H (by simp)
   rw [if_pos c6] at H; have c6b0 := decide_eq_true c6; clear c6; by_cases c7 : (rd l0 x5_1) = (rd l1 x5_1); rotate_left
   ·rw [if_neg c7] at H; have c7b0 : ((rd l0 x5_1) == (rd l1 x5_1)) = false := beq_eq_false_iff_ne.mpr c7; have c7b1 : ((rd l0 x5_1) != (rd l1 x5_1)) = true := bne_iff_ne.mpr c7; obtain rfl := Option.some.inj H; have p101 : 0 ≤ (x5_1 : Int) := of_decide_eq_true zz1; have q101 : x5_1 < (l0.length : Int) := of_decide_eq_true zz1; obtain ⟨ad101, e101, hx101_0⟩ := Kd.at_int HR0.out x5_1 p101 q101; cases e101; replace p101 := eq_true p101; replace q101 := eq_true q101; have p102 : 0 ≤ (x5_1 : Int) := of_decide_eq_true zz1; have q102 : x5_1 < (l1.length : Int) := of_decide_eq_true zz1; obtain ⟨ad102, e102, hx102_0⟩ := Kd.at_int HR1.out x5_1 p102 q102; cases e102; replace p102 := eq_true p102; replace q102 := eq_true q102; go_wp2; (repeat (go_quiet (fail); try go_wp2)); go_ret; exact ⟨zz2, by repeat (first | exact Drawn0.refl _ | apply Drawn0.step)⟩
   rw [if_pos c7] at H; have c7b0 : ((rd l0 x5_1) == (rd l1 x5_1)) = true := beq_iff_eq.mpr c7; have c7b1 : ((rd l0 x5_1) != (rd l1 x5_1)) = false := bne_eq_false_iff_eq.mpr c7; clear c7; have H' := Aside0.mk H; clear H; have p101 : 0 ≤ (x5_1 : Int) := of_decide_eq_true zz1; have q101 : x5_1 < (l0.length : Int) := of_decide_eq_true zz1; obtain ⟨ad101, e101, hx101_0⟩ := Kd.at_int HR0.out x5_1 p101 q101; cases e101; replace p101 := eq_true p101; replace q101 := eq_true q101; have p102 : 0 ≤ (x5_1 : Int) := of_decide_eq_true zz1; have q102 : x5_1 < (l1.length : Int) := of_decide_eq_true zz1; obtain ⟨ad102, e102, hx102_0⟩ := Kd.at_int HR1.out x5_1 p102 q102; cases e102; replace p102 := eq_true p102; replace q102 := eq_true q102; go_wp2; (repeat (go_quiet (fail); try go_wp2)); go_roundg k1; (case measure => have := HK1.out; omega); case rel => exact ⟨(wrap64 (x5_1 + 1)), zz2, H', ⟨by have := HK1.out; omega⟩, by repeat (first | exact Drawn0.refl _ | apply Drawn0.step)⟩
end Go.Proofs.Ytkcbinohpdhbgaa.P
end

section
namespace Go.Proofs.Ytkcbinohpdhbgaa.P
open Go.RowKit Go.Proofs.YtkcbinohpdhbgaaW.PrintWords Go.Proofs.YtkcbinohpdhbgaaW.PrintLast Go.Proofs.YtkcbinohpdhbgaaW.PrintMore
attribute [local go_sem] max2_int min2_int max_two min_two max_three min_three max_four min_four
set_option linter.unusedVariables false
set_option linter.unusedSimpArgs false
def laws_markIntS.l0 : Nat → List Int → Int → Int → Option (Int × List Int)
 | 0, _, _, _ => none
 | k + 1, x0, x1, x5 => if x5 < (x0.length : Int) then (if 0 ≤ x5 then (laws_markIntS.l0 k (x0.set (x5 : Int).toNat x1) (wrap64 (x1 + 1)) (wrap64 (x5 + 1))) else (none)) else (some (x1, x0))
def laws_markIntS.f (k : Nat) (l0 : List Int) (a1 : Int) : Option (Int × List Int) := laws_markIntS.l0 k l0 a1 0
theorem laws_markIntS.mono_l : ∀ k, (∀ y0 y1 y2, LeO (laws_markIntS.l0 k y0 y1 y2) (laws_markIntS.l0 (k + 1) y0 y1 y2))
 | 0 => fun _ _ _ r h => by simp [laws_markIntS.l0] at h
 | k + 1 => by
  have ih0 := laws_markIntS.mono_l k
  ·intro y0 y1 y2
   unfold laws_markIntS.l0
   exact zm0
theorem laws_markIntS.mono : ∀ a0 a1 k, LeO (laws_markIntS.f k a0 a1) (laws_markIntS.f (k + 1) a0 a1) := by
 intro a0 a1 k; have ih0 := laws_markIntS.mono_l k; unfold laws_markIntS.f; exact zm0
set_option maxHeartbeats 8000000 in
set_option maxRecDepth 100000 in
theorem laws_markIntS.calls (k : Nat) (P0_ : Nat → Prop) (u9000_ : Value) (l0 : List Int) (a1 : Int) (r1 : Int) (r2 : List Int) (w0 w : World) (hB : Below w0.heap.size w0 w) (ho0 : Kd.R (Kd.int .i64) 3 w w0.heap.size P0_ u9000_ l0) (h : laws_markIntS.f k l0 a1 = some (r1, r2)) :
  Calls Try.prog 14 #[u9000_, .int .i64 a1] w fun e w' => e = .returned (.int .i64 r1) ∧ Kd.R (Kd.int .i64) 3 w' w0.heap.size (fun k_ => (P0_ k_ ∨ w.heap.size ≤ k_)) u9000_ r2 ∧ Below w0.heap.size w0 w' ∧ Kept w w' (fun k_ => P0_ k_) := by
 have HO0 := Aside0.mk (show Kd.R (Kd.int .i64) 3 w w0.heap.size (fun k_ => (P0_ k_ ∨ w.heap.size ≤ k_)) u9000_ l0 from Kd.R_mono ho0 (fun k_ hk => (.inl hk))); have HK := Aside0.mk (Kept.refl w (fun k_ => P0_ k_)); have HW0 := Aside0.mk hB.size; have HB := Aside0.mk hB; clear hB; have H : (laws_markIntS.l0 k l0 a1 0) = some (r1, r2) := h; clear h; have H' := Aside0.mk H; clear H; go_enter Try.func14, Try.ntmps14; go_wp2; (go_loopg [1, 5] k (fun kq v1 v5 w' => ∃ (x0_1 : List Int) (x1_1 : Int) (x5_1 : Int), v1 = .int .i64 x1_1 ∧ v5 = .int .i64 x5_1 ∧ Aside0 (laws_markIntS.l0 kq x0_1 x1_1 x5_1 = some (r1, r2)) ∧ Aside0 (kq ≤ k) ∧ Aside0 (Kd.R (Kd.int .i64) 3 w' w0.heap.size (fun k_ => (P0_ k_ ∨ w.heap.size ≤ k_)) u9000_ x0_1) ∧ Aside0 (Kept w w' (fun k_ => P0_ k_)) ∧ Aside0 (Below w0.heap.size w0 w'))); case atStart => exact ⟨(l0), (a1), (0), zz2, zz2, H', ⟨Nat.le_refl _⟩, ⟨by (with_reducible repeat (first | apply Kd.R_alloc | apply Kd.R_drewN | apply Kd.R_drew)); exact HO0.out⟩, ⟨by repeat (first | (with_reducible first | exact HK.out | apply Kept.alloc | apply Kept.drewN | apply Kept.drew) | exact HK.out)⟩, ⟨zz0⟩⟩
 case round =>
  clear H'; (try clear c1); (try clear p2); obtain ⟨x0_1, x1_1, x5_1, rfl, rfl, HA, HK1, HO_0, HK, HB⟩ := hrel
  cases gk with
  | zero => exact absurd HA.out (by simp [laws_markIntS.l0])
  | succ k1 =>
   have H := HA.out; clear HA; simp only [laws_markIntS.l0] at H; by_cases c3 : x5_1 < (x0_1.length : Int); rotate_left
   ·rw [if_neg c3] at H; have c3b0 := decide_eq_false c3; clear c3; simp only [Option.some.injEq, Prod.mk.injEq] at H; obtain ⟨rfl, rfl⟩ := H; obtain ⟨Ao9, co9, eo9⟩ := Kd.R_slice HO_0.out; subst eo9; go_wp2; go_ret; exact ⟨zz6, by (with_reducible repeat (first | apply Kd.R_alloc | apply Kd.R_drewN | apply Kd.R_drew)); exact HO_0.out, zz0, by repeat (first | (with_reducible first | exact HK.out | apply Kept.alloc | apply Kept.drewN | apply Kept.drew) | exact HK.out)⟩
   rw [if_pos c3] at H; have c3b0 := decide_eq_true c3; clear c3; by_cases c4 : 0 ≤ x5_1; rotate_left
   ·rw [if_neg c4] at H; exact absurd H (by simp)
   rw [if_pos c4] at H; have c4b0 := decide_eq_true c4; clear c4; obtain ⟨y101, hy_⟩ : ∃ y_ : List Int, y_ = (x0_1.set (x5_1 : Int).toNat x1_1) := ⟨_, rfl⟩; (replace H : (laws_markIntS.l0 k1 y101 (wrap64 (x1_1 + 1)) (wrap64 (x5_1 + 1))) = some (r1, r2) := zzY); have Ny101 := Aside0.mk hy_; clear hy_; have H' := Aside0.mk H; clear H; obtain ⟨Ao6, co6, eo6⟩ := Kd.R_slice HO_0.out; subst eo6; have p5 : 0 ≤ (x5_1 : Int) := of_decide_eq_true zz1; have q5 : (x5_1 : Int) < ((x0_1.length : Int) : Int) := of_decide_eq_true zz1; obtain ⟨go5, co5, eo5, gb5, gl5, cl5, HG5⟩ := Kd.R_form HO_0.out (by omega); (first | cases eo5 | (injection eo5 with ea_ en_ ec_; (first | subst ea_ | (injection ea_ with ea_; subst ea_)); subst ec_; clear en_)); have GB5 := Aside0.mk gb5; have GG5 := Aside0.mk HG5; clear gb5 gl5 HG5; have HMgo5 := Aside0.mk (show (P0_ go5 ∨ w.heap.size ≤ go5) from (HO_0.out.1 _ rfl)); obtain ⟨hx5_0, hf5_0⟩ := Kd.R_celln 0 HO_0.out (x5_1 : Int) p5 q5; replace p5 := eq_true p5; replace q5 := eq_true q5; have HP7 := Kd.R_putg HO_0.out (x5_1 : Int) x1_1; (go_wp2_with (first | ((with_reducible refine gate_store (t := 3) (p := 15) rfl ?_); refine store_event (t := 3) (p := 15) (v := ?vo_w8) (w1 := (wr.setCell ⟨go5, (x5_1 : Int).toNat, none⟩ (.int .i64 x1_1))) ?hg ?ho ?hn ?hr ?_; (case ho => rfl); (case hg => rfl); (case hn => rfl); (case hr => first | (go_simp; done) | (go_simp; rfl)); intro w8 hw; have hg : wr.grownBy w8 (some go5) := (by rw [hw]; exact HP7.2); have hp_ : Kd.R (Kd.int .i64) 3 w8 w0.heap.size (fun k_ => (P0_ k_ ∨ w.heap.size ≤ k_)) (.slice (some ⟨go5, 0, none⟩) x0_1.length co6) y101 := (by rw [hw, Ny101.out]; exact HP7.1); clear HP7; have n_ := zA3 hp_ (by rw [hw]; exact below_set (HB.out) GB5.out : Below w0.heap.size w0 w8) (Kept.of_grown (S := (fun k_ => P0_ k_)) hg (by repeat (first | (with_reducible first | exact HK.out | apply Kept.alloc | apply Kept.drewN | apply Kept.drew) | exact HK.out)) (fun k_ e_ => (HO_0.out.1 k_ e_))); clear HO_0 HB HK; obtain ⟨HO_0, HB, HK⟩ := n_; clear hg hw hp_))); go_roundg k1; (case measure => have := HK1.out; omega); case rel => exact ⟨(y101), (wrap64 (x1_1 + 1)), (wrap64 (x5_1 + 1)), zz2, zz2, H', ⟨by have := HK1.out; omega⟩, ⟨by (with_reducible repeat (first | apply Kd.R_alloc | apply Kd.R_drewN | apply Kd.R_drew)); exact HO_0.out⟩, ⟨by repeat (first | (with_reducible first | exact HK.out | apply Kept.alloc | apply Kept.drewN | apply Kept.drew) | exact HK.out)⟩, ⟨zz0⟩⟩
def laws_heldIntS.l0 : Nat → List Int → Int → Int → Option (Int)
 | 0, _, _, _ => none
 | k + 1, x0, x1, x5 => if x5 < (x0.length : Int) then (if 0 ≤ x5 then (if (rd x0 x5) = x1 then (laws_heldIntS.l0 k x0 (wrap64 (x1 + 1)) (wrap64 (x5 + 1))) else (some (-1))) else (none)) else (some x1)
def laws_heldIntS.f (k : Nat) (l0 : List Int) (a1 : Int) : Option (Int) := laws_heldIntS.l0 k l0 a1 0
theorem laws_heldIntS.mono_l : ∀ k, (∀ y0 y1 y2, LeO (laws_heldIntS.l0 k y0 y1 y2) (laws_heldIntS.l0 (k + 1) y0 y1 y2))
 | 0 => fun _ _ _ r h => by simp [laws_heldIntS.l0] at h
 | k + 1 => by
  have ih0 := laws_heldIntS.mono_l k
  ·intro y0 y1 y2
   unfold laws_heldIntS.l0
   exact zm0
theorem laws_heldIntS.mono : ∀ a0 a1 k, LeO (laws_heldIntS.f k a0 a1) (laws_heldIntS.f (k + 1) a0 a1) := by
 intro a0 a1 k; have ih0 := laws_heldIntS.mono_l k; unfold laws_heldIntS.f; exact zm0
set_option maxHeartbeats 8000000 in
set_option maxRecDepth 100000 in
theorem laws_heldIntS.calls (k : Nat) (A0 : Option Addr) (c0 : Nat) (l0 : List Int) (a1 : Int) (r : Int) (w : World) (hr0 : Kd.C (Kd.int .i64) w A0 l0.length l0) (hc0 : l0.length ≤ c0) (h : laws_heldIntS.f k l0 a1 = some r) :
  Calls Try.prog 15 #[.slice A0 l0.length c0, .int .i64 a1] w fun e w' => e = .returned (.int .i64 r) ∧ Drawn0 w w' := by
 have HR0 := Aside0.mk hr0; have HC0 := Aside0.mk hc0; clear hr0 hc0; have H : (laws_heldIntS.l0 k l0 a1 0) = some r := h; clear h; have H' := Aside0.mk H; clear H; go_enter Try.func15, Try.ntmps15; go_wp2; (go_loopg [1, 5] k (fun kq v1 v5 w' => ∃ (x1_1 : Int) (x5_1 : Int), v1 = .int .i64 x1_1 ∧ v5 = .int .i64 x5_1 ∧ Aside0 (laws_heldIntS.l0 kq l0 x1_1 x5_1 = some r) ∧ Aside0 (kq ≤ k) ∧ Drawn0 w w')); case atStart => exact ⟨(a1), (0), zz2, zz2, H', ⟨Nat.le_refl _⟩, by repeat (first | exact Drawn0.refl _ | apply Drawn0.step)⟩
 case round =>
  clear H'; (try clear c1); (try clear p2); obtain ⟨x1_1, x5_1, rfl, rfl, HA, HK1, ⟨m1, rfl⟩⟩ := hrel
  cases gk with
  | zero => exact absurd HA.out (by simp [laws_heldIntS.l0])
  | succ k1 =>
   have H := HA.out; clear HA; simp only [laws_heldIntS.l0] at H; by_cases c3 : x5_1 < (l0.length : Int); rotate_left
   ·rw [if_neg c3] at H; have c3b0 := decide_eq_false c3; clear c3; obtain rfl := Option.some.inj H; go_wp2; go_ret; exact ⟨zz2, by repeat (first | exact Drawn0.refl _ | apply Drawn0.step)⟩
   rw [if_pos c3] at H; have c3b0 := decide_eq_true c3; clear c3; by_cases c4 : 0 ≤ x5_1; rotate_left
   ·rw [if_neg c4] at H; exact absurd H (by simp)
   rw [if_pos c4] at H; have c4b0 := decide_eq_true c4; clear c4; by_cases c5 : (rd l0 x5_1) = x1_1; rotate_left
   ·rw [if_neg c5] at H; have c5b0 : ((rd l0 x5_1) == x1_1) = false := beq_eq_false_iff_ne.mpr c5; have c5b1 : ((rd l0 x5_1) != x1_1) = true := bne_iff_ne.mpr c5; obtain rfl := Option.some.inj H; have p101 : 0 ≤ (x5_1 : Int) := of_decide_eq_true zz1; have q101 : x5_1 < (l0.length : Int) := of_decide_eq_true zz1; obtain ⟨ad101, e101, hx101_0⟩ := Kd.at_int HR0.out x5_1 p101 q101; cases e101; replace p101 := eq_true p101; replace q101 := eq_true q101; go_wp2; go_ret; exact ⟨zz2, by repeat (first | exact Drawn0.refl _ | apply Drawn0.step)⟩
   rw [if_pos c5] at H; have c5b0 : ((rd l0 x5_1) == x1_1) = true := beq_iff_eq.mpr c5; have c5b1 : ((rd l0 x5_1) != x1_1) = false := bne_eq_false_iff_eq.mpr c5; clear c5; have H' := Aside0.mk H; clear H; have p101 : 0 ≤ (x5_1 : Int) := of_decide_eq_true zz1; have q101 : x5_1 < (l0.length : Int) := of_decide_eq_true zz1; obtain ⟨ad101, e101, hx101_0⟩ := Kd.at_int HR0.out x5_1 p101 q101; cases e101; replace p101 := eq_true p101; replace q101 := eq_true q101; go_wp2; go_roundg k1; (case measure => have := HK1.out; omega); case rel => exact ⟨(wrap64 (x1_1 + 1)), (wrap64 (x5_1 + 1)), zz2, zz2, H', ⟨by have := HK1.out; omega⟩, by repeat (first | exact Drawn0.refl _ | apply Drawn0.step)⟩
def laws_szIntS.f (l0 : List Int) (a1 : Int) : Option (Int) := if (wrap64 (a1 - (l0.length : Int))) < 0 then (some (-1)) else (some (wrap64 (a1 - (l0.length : Int))))
set_option maxHeartbeats 8000000 in
set_option maxRecDepth 100000 in
theorem laws_szIntS.calls (A0 : Option Addr) (c0 : Nat) (l0 : List Int) (a1 : Int) (r : Int) (w : World) (hr0 : Kd.C (Kd.int .i64) w A0 l0.length l0) (hc0 : l0.length ≤ c0) (h : laws_szIntS.f l0 a1 = some r) :
  Calls Try.prog 61 #[.slice A0 l0.length c0, .int .i64 a1] w fun e w' => e = .returned (.int .i64 r) ∧ Drawn0 w w' := by
 have HR0 := Aside0.mk hr0; have HC0 := Aside0.mk hc0; clear hr0 hc0; have H : (if (wrap64 (a1 - (l0.length : Int))) < 0 then (some (-1)) else (some (wrap64 (a1 - (l0.length : Int))))) = some r := h; clear h; by_cases c3 : (wrap64 (a1 - (l0.length : Int))) < 0
 ·rw [if_pos c3] at H; have c3b0 := decide_eq_true c3; clear c3; obtain rfl := Option.some.inj H; go_enter Try.func61, Try.ntmps61; go_wp2; go_ret; exact ⟨zz2, by repeat (first | exact Drawn0.refl _ | apply Drawn0.step)⟩
 rw [if_neg c3] at H; have c3b0 := decide_eq_false c3; clear c3; obtain rfl := Option.some.inj H; go_enter Try.func61, Try.ntmps61; go_wp2; go_ret; exact ⟨zz2, by repeat (first | exact Drawn0.refl _ | apply Drawn0.step)⟩
def laws_szIntSS.l0 : Nat → List (List Int) → Int → Int → Option (Int)
 | 0, _, _, _ => none
 | k + 1, x0, x1, x5 => if x5 < (x0.length : Int) then (if 0 ≤ x5 then ((laws_szIntS.f (rd_L3 x0 x5) x1).bind fun t102 => (if t102 < 0 then (some (-1)) else (laws_szIntSS.l0 k x0 t102 (wrap64 (x5 + 1))))) else (none)) else (some x1)
def laws_szIntSS.f (k : Nat) (l0 : List (List Int)) (a1 : Int) : Option (Int) := if (wrap64 (a1 - (l0.length : Int))) < 0 then (some (-1)) else (laws_szIntSS.l0 k l0 (wrap64 (a1 - (l0.length : Int))) 0)
theorem laws_szIntSS.mono_l : ∀ k, (∀ y0 y1 y2, LeO (laws_szIntSS.l0 k y0 y1 y2) (laws_szIntSS.l0 (k + 1) y0 y1 y2))
 | 0 => fun _ _ _ r h => by simp [laws_szIntSS.l0] at h
 | k + 1 => by
  have ih0 := laws_szIntSS.mono_l k
  ·intro y0 y1 y2
   unfold laws_szIntSS.l0
   exact zm0
theorem laws_szIntSS.mono : ∀ a0 a1 k, LeO (laws_szIntSS.f k a0 a1) (laws_szIntSS.f (k + 1) a0 a1) := by
 intro a0 a1 k; have ih0 := laws_szIntSS.mono_l k; unfold laws_szIntSS.f; exact zm0
set_option maxHeartbeats 8000000 in
set_option maxRecDepth 100000 in
theorem laws_szIntSS.calls (k : Nat) (A0 : Option Addr) (c0 : Nat) (l0 : List (List Int)) (a1 : Int) (r : Int) (w : World) (hr0 : Kd.C (Kd.slice 3 (Kd.int .i64)) w A0 l0.length l0) (hc0 : l0.length ≤ c0) (h : laws_szIntSS.f k l0 a1 = some r) :
  Calls Try.prog 28 #[.slice A0 l0.length c0, .int .i64 a1] w fun e w' => e = .returned (.int .i64 r) ∧ Drawn0 w w' := by
 have HR0 := Aside0.mk hr0; have HC0 := Aside0.mk hc0; clear hr0 hc0; have H : (if (wrap64 (a1 - (l0.length : Int))) < 0 then (some (-1)) else (laws_szIntSS.l0 k l0 (wrap64 (a1 - (l0.length : Int))) 0)) = some r := h; clear h; by_cases c3 : (wrap64 (a1 - (l0.length : Int))) < 0
 ·rw [if_pos c3] at H; have c3b0 := decide_eq_true c3; clear c3; obtain rfl := Option.some.inj H; go_enter Try.func28, Try.ntmps28; go_wp2; go_ret; exact ⟨zz2, by repeat (first | exact Drawn0.refl _ | apply Drawn0.step)⟩
 rw [if_neg c3] at H; have c3b0 := decide_eq_false c3; clear c3; have H' := Aside0.mk H; clear H; go_enter Try.func28, Try.ntmps28; go_wp2; (go_loopg [1, 5] k (fun kq v1 v5 w' => ∃ (x1_1 : Int) (x5_1 : Int), v1 = .int .i64 x1_1 ∧ v5 = .int .i64 x5_1 ∧ Aside0 (laws_szIntSS.l0 kq l0 x1_1 x5_1 = some r) ∧ Aside0 (kq ≤ k) ∧ Drawn0 w w')); case atStart => exact ⟨(wrap64 (a1 - (l0.length : Int))), (0), zz2, zz2, H', ⟨Nat.le_refl _⟩, by repeat (first | exact Drawn0.refl _ | apply Drawn0.step)⟩
 case round =>
  clear H'; (try clear c2); (try clear p2); (try clear c3); (try clear c3b0); obtain ⟨x1_1, x5_1, rfl, rfl, HA, HK1, ⟨m1, rfl⟩⟩ := hrel
  cases gk with
  | zero => exact absurd HA.out (by simp [laws_szIntSS.l0])
  | succ k1 =>
   have H := HA.out; clear HA; simp only [laws_szIntSS.l0] at H; by_cases c4 : x5_1 < (l0.length : Int); rotate_left
   ·rw [if_neg c4] at H; have c4b0 := decide_eq_false c4; (try (have c4b8101_0 := c4b0; first | rw [hl101_0] at c4b8101_0 | rw [← hl101_0] at c4b8101_0)); clear c4; obtain rfl := Option.some.inj H; go_wp2; go_ret; exact ⟨zz2, by repeat (first | exact Drawn0.refl _ | apply Drawn0.step)⟩
   rw [if_pos c4] at H; have c4b0 := decide_eq_true c4; clear c4; by_cases c5 : 0 ≤ x5_1; rotate_left
   ·rw [if_neg c5] at H; exact absurd H (by simp)
   rw [if_pos c5] at H; have c5b0 := decide_eq_true c5; clear c5; replace H := Option.bind_eq_some_iff.mp H; obtain ⟨t102, A60, H⟩ := H; (try dsimp only at H); have A6 := Aside0.mk A60; clear A60; by_cases c7 : t102 < 0
   ·rw [if_pos c7] at H; have c7b0 := decide_eq_true c7; clear c7; obtain rfl := Option.some.inj H; have p101 : 0 ≤ (x5_1 : Int) := of_decide_eq_true zz1; have q101 : x5_1 < (l0.length : Int) := of_decide_eq_true zz1; obtain ⟨ad101, A101_0, c101_0, e101, hx101_0, hl101_0, hi101_0⟩ := at_L3 HR0.out x5_1 p101 q101; cases e101; have HR101_0 := Aside0.mk hi101_0; have HC101_0 := Aside0.mk hl101_0; clear hi101_0 hl101_0; replace p101 := eq_true p101; replace q101 := eq_true q101; (go_wp2_with (first | ((with_reducible refine gate_callee (f := 61) rfl ?_); refine goesL_ (some 23) rfl rfl Try.func61 (by kernel_rfl) rfl #[.slice A101_0 (rd_L3 l0 x5_1).length c101_0, .int .i64 x1_1] rfl zz7 ?_; (with_reducible refine (laws_szIntS.calls _ _ (rd_L3 l0 x5_1) x1_1 t102 _ ?side1 ?side2 A6.out).mono ?_); (case side1 => exact zz4); (case side2 => exact HC101_0.out); rintro e w' ⟨rfl, ⟨nd, rfl⟩⟩; refine ⟨_, rfl, ?_⟩))); go_ret; exact ⟨zz2, by repeat (first | exact Drawn0.refl _ | apply Drawn0.step)⟩
   rw [if_neg c7] at H; have c7b0 := decide_eq_false c7; clear c7; have H' := Aside0.mk H; clear H; have p101 : 0 ≤ (x5_1 : Int) := of_decide_eq_true zz1; have q101 : x5_1 < (l0.length : Int) := of_decide_eq_true zz1; obtain ⟨ad101, A101_0, c101_0, e101, hx101_0, hl101_0, hi101_0⟩ := at_L3 HR0.out x5_1 p101 q101; cases e101; have HR101_0 := Aside0.mk hi101_0; have HC101_0 := Aside0.mk hl101_0; clear hi101_0 hl101_0; replace p101 := eq_true p101; replace q101 := eq_true q101; (go_wp2_with (first | ((with_reducible refine gate_callee (f := 61) rfl ?_); refine goesL_ (some 23) rfl rfl Try.func61 (by kernel_rfl) rfl #[.slice A101_0 (rd_L3 l0 x5_1).length c101_0, .int .i64 x1_1] rfl zz7 ?_; (with_reducible refine (laws_szIntS.calls _ _ (rd_L3 l0 x5_1) x1_1 t102 _ ?side1 ?side2 A6.out).mono ?_); (case side1 => exact zz4); (case side2 => exact HC101_0.out); rintro e w' ⟨rfl, ⟨nd, rfl⟩⟩; refine ⟨_, rfl, ?_⟩))); go_roundg k1; (case measure => have := HK1.out; omega); case rel => exact ⟨(t102), (wrap64 (x5_1 + 1)), zz2, zz2, H', ⟨by have := HK1.out; omega⟩, by repeat (first | exact Drawn0.refl _ | apply Drawn0.step)⟩
mutual
def spec_RowOfOne.l0 : Nat → List Int → List (List Int) → Int → Int → Option (List Int)
 | 0, _, _, _, _ => none
 | k + 1, x3, x9, x10, x11 => if x11 < x10 then (if 0 ≤ x11 then (if x11 < (x9.length : Int) then (spec_RowOfOne.l1 k x3 x9 x10 x11 (rd_L3 x9 x11) ((rd_L3 x9 x11).length : Int) 0) else (none)) else (none)) else (spec_RowOfOne.l3 k x3)
def spec_RowOfOne.l1 : Nat → List Int → List (List Int) → Int → Int → List Int → Int → Int → Option (List Int)
 | 0, _, _, _, _, _, _, _ => none
 | k + 1, x3, x9, x10, x11, x15, x16, x17 => if x17 < x16 then (if 0 ≤ x17 then (if x17 < (x15.length : Int) then (spec_RowOfOne.l2 k x3 x17 (rd x15 x17) x9 x10 x11 x15 x16 x17) else (none)) else (none)) else (spec_RowOfOne.l0 k x3 x9 x10 (wrap64 (x11 + 1)))
def spec_RowOfOne.l2 : Nat → List Int → Int → Int → List (List Int) → Int → Int → List Int → Int → Int → Option (List Int)
 | 0, _, _, _, _, _, _, _, _, _ => none
 | k + 1, x3, x6, x7, x9, x10, x11, x15, x16, x17 => if (x3.length : Int) ≤ x6 then (if x3.length < 17592186044416 then (spec_RowOfOne.l2 k (x3 ++ [0]) x6 x7 x9 x10 x11 x15 x16 x17) else (none)) else (if 0 ≤ x6 then (if x6 < (x3.length : Int) then (spec_RowOfOne.l1 k (x3.set (x6 : Int).toNat (wrap64 ((rd x3 x6) + x7))) x9 x10 x11 x15 x16 (wrap64 (x17 + 1))) else (none)) else (none))
def spec_RowOfOne.l3 : Nat → List Int → Option (List Int)
 | 0, _ => none
 | k + 1, x3 => if (x3.length : Int) > 0 then (if 0 ≤ (wrap64 ((x3.length : Int) - 1)) then (if (wrap64 ((x3.length : Int) - 1)) < (x3.length : Int) then (if (rd x3 (wrap64 ((x3.length : Int) - 1))) = 0 then (if (wrap64 ((x3.length : Int) - 1)) ≤ (x3.length : Int) then (spec_RowOfOne.l3 k (x3.take ((wrap64 ((x3.length : Int) - 1)) : Int).toNat)) else (none)) else (some x3)) else (none)) else (none)) else (some x3)
end
def spec_RowOfOne.f (k : Nat) (l0 : List (List Int)) : Option (List Int) := spec_RowOfOne.l0 k (([] : List Int)) l0 (l0.length : Int) 0
theorem spec_RowOfOne.mono_l : ∀ k, (∀ y0 y1 y2 y3, LeO (spec_RowOfOne.l0 k y0 y1 y2 y3) (spec_RowOfOne.l0 (k + 1) y0 y1 y2 y3)) ∧ (∀ y0 y1 y2 y3 y4 y5 y6, LeO (spec_RowOfOne.l1 k y0 y1 y2 y3 y4 y5 y6) (spec_RowOfOne.l1 (k + 1) y0 y1 y2 y3 y4 y5 y6)) ∧ (∀ y0 y1 y2 y3 y4 y5 y6 y7 y8, LeO (spec_RowOfOne.l2 k y0 y1 y2 y3 y4 y5 y6 y7 y8) (spec_RowOfOne.l2 (k + 1) y0 y1 y2 y3 y4 y5 y6 y7 y8)) ∧ (∀ y0, LeO (spec_RowOfOne.l3 k y0) (spec_RowOfOne.l3 (k + 1) y0))
 | 0 => ⟨fun _ _ _ _ r h => by simp [spec_RowOfOne.l0] at h, fun _ _ _ _ _ _ _ r h => by simp [spec_RowOfOne.l1] at h, fun _ _ _ _ _ _ _ _ _ r h => by simp [spec_RowOfOne.l2] at h, fun _ r h => by simp [spec_RowOfOne.l3] at h⟩
 | k + 1 => by
  obtain ⟨ih0, ih1, ih2, ih3⟩ := spec_RowOfOne.mono_l k
  refine ⟨?_, ?_, ?_, ?_⟩
  ·intro y0 y1 y2 y3
   unfold spec_RowOfOne.l0
   exact zm1
  ·intro y0 y1 y2 y3 y4 y5 y6
   unfold spec_RowOfOne.l1
   exact zm1
  ·intro y0 y1 y2 y3 y4 y5 y6 y7 y8
   unfold spec_RowOfOne.l2
   exact zm1
  ·intro y0
   unfold spec_RowOfOne.l3
   exact zm1
theorem spec_RowOfOne.mono : ∀ a0 k, LeO (spec_RowOfOne.f k a0) (spec_RowOfOne.f (k + 1) a0) := by
 intro a0 k; obtain ⟨ih0, ih1, ih2, ih3⟩ := spec_RowOfOne.mono_l k; unfold spec_RowOfOne.f; exact zm1
set_option maxHeartbeats 8000000 in
set_option maxRecDepth 100000 in
theorem spec_RowOfOne.calls (k : Nat) (A0 : Option Addr) (c0 : Nat) (l0 : List (List Int)) (r : List Int) (w : World) (hr0 : Kd.C (Kd.slice 3 (Kd.int .i64)) w A0 l0.length l0) (hc0 : l0.length ≤ c0) (h : spec_RowOfOne.f k l0 = some r) :
  Calls Try.prog 29 #[.slice A0 l0.length c0] w fun e w' => ∃ v0_ : Value, e = .returned (v0_) ∧ Kd.R (Kd.int .i64) 3 w' w.heap.size (fun _ => True) v0_ r ∧ Below w.heap.size w w' := by
 have HR0 := Aside0.mk hr0; have HC0 := Aside0.mk hc0; clear hr0 hc0; have HB := Aside0.mk (Below.refl w.heap.size w); have H : (spec_RowOfOne.l0 k (([] : List Int)) l0 (l0.length : Int) 0) = some r := h; clear h; obtain ⟨y101, hy_⟩ : ∃ y_ : List Int, y_ = (([] : List Int)) := ⟨_, rfl⟩; (replace H : (spec_RowOfOne.l0 k y101 l0 (l0.length : Int) 0) = some r := zzY); have Ny101 := Aside0.mk hy_; clear hy_; have H' := Aside0.mk H; clear H; go_enter Try.func29, Try.ntmps29; (go_wp2_with (first | ((with_reducible refine gate_dst (N := 8) rfl ?_); (try (refine gate_guard (by rfl) ?_; dsimp only)); refine Kd.R_lit (Kd.int .i64) _ 3 ?hg (N := 8) ?hd (xs := ([] : List Int)) (inner := []) (ok := fun _ => True) (okp := fun _ => True) ?hr ?hp (fun _ hk => hk) trivial (Below.refl _ _) (Nat.le_refl _) (by simp) ?_; (case hd => rfl); (case hg => rfl); (case hr => first | (go_simp; done) | (go_simp; rfl)); (case hp => exact (Reps.none _ _)); intro v102 w2 ho3 hb hg_ hnew_; clear hg_ hnew_; (first | rw [← Ny101.out] at ho3 | (simp only [Int.reduceToNat] at ho3; rw [← Ny101.out] at ho3)); have n_ := zA2 (Kd.R_lower ho3 (below_size zz0)) (below_step zz0 hb); clear HB; obtain ⟨HO103, HB⟩ := n_; clear hb ho3))); (go_loopg [3, 11] k (fun kq v3 v11 w' => ∃ (x3_1 : List Int) (x11_1 : Int), v11 = .int .i64 x11_1 ∧ Aside0 (spec_RowOfOne.l0 kq x3_1 l0 (l0.length : Int) x11_1 = some r) ∧ Aside0 (kq ≤ k) ∧ Aside0 (Kd.R (Kd.int .i64) 3 w' w.heap.size (fun _ => True) v3 x3_1) ∧ Aside0 (Below w.heap.size w w'))); case atStart => exact ⟨(y101), (0), zz2, H', ⟨Nat.le_refl _⟩, ⟨by (with_reducible repeat (first | apply Kd.R_alloc | apply Kd.R_drewN | apply Kd.R_drew)); exact HO103.out⟩, ⟨zz0⟩⟩
 case round =>
  clear H'; (try clear c2); (try clear p2); obtain ⟨x3_1, x11_1, rfl, HA, HK1, HO_3, HB⟩ := hrel
  cases gk with
  | zero => exact absurd HA.out (by simp [spec_RowOfOne.l0])
  | succ k1 =>
   have H := HA.out; clear HA; simp only [spec_RowOfOne.l0] at H; by_cases c4 : x11_1 < (l0.length : Int); rotate_left
   ·rw [if_neg c4] at H; have c4b0 := decide_eq_false c4; (try (have c4b8104_0 := c4b0; first | rw [hl104_0] at c4b8104_0 | rw [← hl104_0] at c4b8104_0)); clear c4; have H' := Aside0.mk H; clear H; go_wp2; (go_loopg [3] k1 (fun kq v3 w' => ∃ (x3_2 : List Int), Aside0 (spec_RowOfOne.l3 kq x3_2 = some r) ∧ Aside0 (kq ≤ k1) ∧ Aside0 (Kd.R (Kd.int .i64) 3 w' w.heap.size (fun _ => True) v3 x3_2) ∧ Aside0 (Below w.heap.size w w'))); case atStart => exact ⟨(x3_1), H', ⟨Nat.le_refl _⟩, ⟨zz3⟩, ⟨zz0⟩⟩
    case round =>
     clear H'; (try clear c1); (try clear p1); (try clear q1); (try clear hx1); (try clear hf1); (try clear c2); (try clear p2); (try clear c4); (try clear c4b0); (try clear c5); (try clear c5b0); (try clear c6); (try clear c6b0); (try clear p6); (try clear c7); (try clear c7b0); (try clear c8); (try clear c8b0); (try clear c9); (try clear c9b0); (try clear c10); (try clear c10b0); (try clear p10); (try clear q10); (try clear hx10); (try clear c11); (try clear c14); (try clear c14b0); (try clear c15); (try clear c15b0); (try clear p16); (try clear q16); (try clear hx16); (try clear hf16); (try clear hx104_0); (try clear hx105_0); (try clear hx109_0); (try clear hx16_0); (try clear p1); (try clear p104); (try clear p105); (try clear p109); (try clear p16); (try clear p2); (try clear q1); (try clear q104); (try clear q105); (try clear q109); (try clear q16); obtain ⟨x3_2, HA, HK2, HO_3, HB⟩ := hrel
     cases gk with
     | zero => exact absurd HA.out (by simp [spec_RowOfOne.l3])
     | succ k2 =>
      have H := HA.out; clear HA; simp only [spec_RowOfOne.l3] at H; by_cases c20 : (x3_2.length : Int) > 0; rotate_left
      ·rw [if_neg c20] at H; have c20b0 : decide (0 < (x3_2.length : Int)) = false := decide_eq_false c20; (try (have c20b8104_0 := c20b0; first | rw [hl104_0] at c20b8104_0 | rw [← hl104_0] at c20b8104_0)); have c20b1 : decide (0 < x3_2.length) = false := decide_eq_false (by omega); clear c20; obtain rfl := Option.some.inj H; obtain ⟨Ao29, co29, eo29⟩ := Kd.R_slice HO_3.out; subst eo29; go_wp2; go_ret; exact ⟨_, zz6, zz3, zz0⟩
      rw [if_pos c20] at H; have c20b0 : decide (0 < (x3_2.length : Int)) = true := decide_eq_true c20; (try (have c20b8104_0 := c20b0; first | rw [hl104_0] at c20b8104_0 | rw [← hl104_0] at c20b8104_0)); have c20b1 : decide (0 < x3_2.length) = true := decide_eq_true (by omega); clear c20; obtain ⟨ji21, hji21⟩ : ∃ j_ : Int, (wrap64 ((x3_2.length : Int) - 1)) = j_ := ⟨_, rfl⟩; (replace H : (if 0 ≤ (ji21) then (if (ji21) < (x3_2.length : Int) then (if (rd x3_2 (ji21)) = 0 then (if (ji21) ≤ (x3_2.length : Int) then (spec_RowOfOne.l3 k2 (x3_2.take ((ji21) : Int).toNat)) else (none)) else (some x3_2)) else (none)) else (none)) = some r := by first | (rw [hji21] at H; exact H) | (simp only [hji21] at H ⊢; exact H)); have hji21w : (IntKind.i64.wrap ((x3_2.length : Int) - 1)) = ji21 := (i64_w _).trans hji21; by_cases c22 : 0 ≤ (ji21); rotate_left
      ·rw [if_neg c22] at H; exact absurd H (by simp)
      rw [if_pos c22] at H; have c22b0 := decide_eq_true c22; clear c22; by_cases c23 : (ji21) < (x3_2.length : Int); rotate_left
      ·rw [if_neg c23] at H; exact absurd H (by simp)
      rw [if_pos c23] at H; have c23b0 := decide_eq_true c23; (try (have c23b8104_0 := c23b0; first | rw [hl104_0] at c23b8104_0 | rw [← hl104_0] at c23b8104_0)); clear c23; by_cases c24 : (rd x3_2 (ji21)) = 0; rotate_left
      ·rw [if_neg c24] at H; have c24b0 : ((rd x3_2 (ji21)) == 0) = false := beq_eq_false_iff_ne.mpr c24; have c24b1 : ((rd x3_2 (ji21)) != 0) = true := bne_iff_ne.mpr c24; obtain rfl := Option.some.inj H; obtain ⟨Ao28, co28, eo28⟩ := Kd.R_slice HO_3.out; subst eo28; have p111 : 0 ≤ ((ji21) : Int) := of_decide_eq_true zz1; have q111 : (ji21) < (x3_2.length : Int) := of_decide_eq_true zz1; obtain ⟨ad111, e111, hx111_0⟩ := Kd.at_int (Kd.R_reads' HO_3.out).2.2 (ji21) p111 q111; cases e111; replace p111 := eq_true p111; replace q111 := eq_true q111; go_wp2; go_ret; exact ⟨_, by first | rfl | (simp [errW_none, errW_some] <;> rfl) | (simp only [← hji21]; first | rfl | (simp [errW_none, errW_some] <;> rfl)) | (simp [*, errW_none, errW_some] <;> rfl), zz3, zz0⟩
      rw [if_pos c24] at H; have c24b0 : ((rd x3_2 (ji21)) == 0) = true := beq_iff_eq.mpr c24; have c24b1 : ((rd x3_2 (ji21)) != 0) = false := bne_eq_false_iff_eq.mpr c24; clear c24; by_cases c25 : (ji21) ≤ (x3_2.length : Int); rotate_left
      ·rw [if_neg c25] at H; exact absurd H (by simp)
      rw [if_pos c25] at H; have c25b0 := eq_true c25; have c25b1 : decide ((ji21) ≤ (x3_2.length : Int)) = true := decide_eq_true c25; clear c25; obtain ⟨y112, hy_⟩ : ∃ y_ : List Int, y_ = (x3_2.take ((ji21) : Int).toNat) := ⟨_, rfl⟩; (replace H : (spec_RowOfOne.l3 k2 y112) = some r := zzY); have Ny112 := Aside0.mk hy_; clear hy_; have H' := Aside0.mk H; clear H; obtain ⟨Ao26, co26, eo26⟩ := Kd.R_slice HO_3.out; subst eo26; have p111 : 0 ≤ ((ji21) : Int) := of_decide_eq_true zz1; have q111 : (ji21) < (x3_2.length : Int) := of_decide_eq_true zz1; obtain ⟨ad111, e111, hx111_0⟩ := Kd.at_int (Kd.R_reads' HO_3.out).2.2 (ji21) p111 q111; cases e111; replace p111 := eq_true p111; replace q111 := eq_true q111; have q27 : ((ji21) : Int) ≤ ((x3_2.length : Int) : Int) := of_decide_eq_true zz1; obtain ⟨i027, hi027, _, hsz27, _⟩ := info_parts info3; have hcut27 := cut_to (P := Try.prog) 26 3 .i64 Try.underlying26 hi027 (some ad111) x3_2.length co26 (ji21) (of_decide_eq_true zz1) q27 (Kd.R_reads' HO_3.out).2.1; have hr27 := Kd.R_take (m := ((ji21) : Int).toNat) HO_3.out (by omega); have hy27 : y112.length = ((ji21) : Int).toNat := (by rw [Ny112.out, List.length_take]; omega); rw [← Ny112.out] at hr27; rw [← hy27] at hr27 hcut27; clear hy27 hi027 hsz27 HO_3; have HO114 := Aside0.mk hr27; clear hr27; replace q27 := eq_true q27; go_wp2; go_roundg k2; (case measure => have := HK1.out; have := HK2.out; omega); case rel => exact ⟨(y112), H', ⟨by have := HK1.out; have := HK2.out; omega⟩, ⟨by (with_reducible repeat (first | apply Kd.R_alloc | apply Kd.R_drewN | apply Kd.R_drew)); exact HO114.out⟩, ⟨zz0⟩⟩
   rw [if_pos c4] at H; have c4b0 := decide_eq_true c4; clear c4; by_cases c5 : 0 ≤ x11_1; rotate_left
   ·rw [if_neg c5] at H; exact absurd H (by simp)
   rw [if_pos c5] at H; have c5b0 := decide_eq_true c5; clear c5; by_cases c6 : x11_1 < (l0.length : Int); rotate_left
   ·rw [if_neg c6] at H; exact absurd H (by simp)
   rw [if_pos c6] at H; have c6b0 := decide_eq_true c6; clear c6; have H' := Aside0.mk H; clear H; have p104 : 0 ≤ (x11_1 : Int) := of_decide_eq_true zz1; have q104 : x11_1 < (l0.length : Int) := of_decide_eq_true zz1; obtain ⟨ad104, A104_0, c104_0, e104, hx104_0, hl104_0, hi104_0⟩ := at_L3 HR0.out x11_1 p104 q104; cases e104; replace hx104_0 := (HB.out.cell (World.block_lt_of_cell? w _ hx104_0)).trans hx104_0; have HR104_0 := Aside0.mk hi104_0; have HC104_0 := Aside0.mk hl104_0; clear hi104_0 hl104_0; replace p104 := eq_true p104; replace q104 := eq_true q104; go_wp2; (go_loopg [3, 17] k1 (fun kq v3 v17 w' => ∃ (x3_2 : List Int) (x17_2 : Int), v17 = .int .i64 x17_2 ∧ Aside0 (spec_RowOfOne.l1 kq x3_2 l0 (l0.length : Int) x11_1 (rd_L3 l0 x11_1) ((rd_L3 l0 x11_1).length : Int) x17_2 = some r) ∧ Aside0 (kq ≤ k1) ∧ Aside0 (Kd.R (Kd.int .i64) 3 w' w.heap.size (fun _ => True) v3 x3_2) ∧ Aside0 (Below w.heap.size w w'))); case atStart => exact ⟨(x3_1), (0), zz2, H', ⟨Nat.le_refl _⟩, ⟨zz3⟩, ⟨zz0⟩⟩
   case round =>
    clear H'; (try clear c1); (try clear p1); (try clear q1); (try clear hx1); (try clear c2); (try clear p2); (try clear c4); (try clear c4b0); (try clear c5); (try clear c5b0); (try clear c6); (try clear c6b0); (try clear hx104_0); (try clear p104); (try clear p2); (try clear q104); obtain ⟨x3_2, x17_2, rfl, HA, HK2, HO_3, HB⟩ := hrel
    cases gk with
    | zero => exact absurd HA.out (by simp [spec_RowOfOne.l1])
    | succ k2 =>
     have H := HA.out; clear HA; simp only [spec_RowOfOne.l1] at H; by_cases c7 : x17_2 < ((rd_L3 l0 x11_1).length : Int); rotate_left
     ·rw [if_neg c7] at H; have c7b0 := decide_eq_false c7; (try (have c7b8104_0 := c7b0; first | rw [hl104_0] at c7b8104_0 | rw [← hl104_0] at c7b8104_0)); clear c7; have H' := Aside0.mk H; clear H; go_wp2; go_roundg k2; (case measure => have := HK1.out; have := HK2.out; omega); case rel => exact ⟨(x3_2), (wrap64 (x11_1 + 1)), zz2, H', ⟨by have := HK1.out; have := HK2.out; omega⟩, ⟨zz3⟩, ⟨zz0⟩⟩
     rw [if_pos c7] at H; have c7b0 := decide_eq_true c7; (try (have c7b8104_0 := c7b0; first | rw [hl104_0] at c7b8104_0 | rw [← hl104_0] at c7b8104_0)); clear c7; by_cases c8 : 0 ≤ x17_2; rotate_left
     ·rw [if_neg c8] at H; exact absurd H (by simp)
     rw [if_pos c8] at H; have c8b0 := decide_eq_true c8; clear c8; by_cases c9 : x17_2 < ((rd_L3 l0 x11_1).length : Int); rotate_left
     ·rw [if_neg c9] at H; exact absurd H (by simp)
     rw [if_pos c9] at H; have c9b0 := decide_eq_true c9; (try (have c9b8104_0 := c9b0; first | rw [hl104_0] at c9b8104_0 | rw [← hl104_0] at c9b8104_0)); clear c9; have H' := Aside0.mk H; clear H; have p105 : 0 ≤ (x17_2 : Int) := of_decide_eq_true zz1; have q105 : x17_2 < ((rd_L3 l0 x11_1).length : Int) := of_decide_eq_true zz1; obtain ⟨ad105, e105, hx105_0⟩ := Kd.at_int HR104_0.out x17_2 p105 q105; cases e105; replace hx105_0 := (HB.out.cell (World.block_lt_of_cell? w _ hx105_0)).trans hx105_0; replace p105 := eq_true p105; replace q105 := eq_true q105; go_wp2; (go_loopg [3] k2 (fun kq v3 w' => ∃ (x3_3 : List Int), Aside0 (spec_RowOfOne.l2 kq x3_3 x17_2 (rd (rd_L3 l0 x11_1) x17_2) l0 (l0.length : Int) x11_1 (rd_L3 l0 x11_1) ((rd_L3 l0 x11_1).length : Int) x17_2 = some r) ∧ Aside0 (kq ≤ k2) ∧ Aside0 (Kd.R (Kd.int .i64) 3 w' w.heap.size (fun _ => True) v3 x3_3) ∧ Aside0 (Below w.heap.size w w'))); case atStart => exact ⟨(x3_2), H', ⟨Nat.le_refl _⟩, ⟨zz3⟩, ⟨zz0⟩⟩
     case round =>
      clear H'; (try clear c1); (try clear p1); (try clear q1); (try clear hx1); (try clear c2); (try clear p2); (try clear c4); (try clear c4b0); (try clear c5); (try clear c5b0); (try clear c6); (try clear c6b0); (try clear c7); (try clear c7b0); (try clear c8); (try clear c8b0); (try clear c9); (try clear c9b0); (try clear hx104_0); (try clear hx105_0); (try clear p1); (try clear p104); (try clear p105); (try clear p2); (try clear q1); (try clear q104); (try clear q105); obtain ⟨x3_3, HA, HK3, HO_3, HB⟩ := hrel
      cases gk with
      | zero => exact absurd HA.out (by simp [spec_RowOfOne.l2])
      | succ k3 =>
       have H := HA.out; clear HA; simp only [spec_RowOfOne.l2] at H; by_cases c10 : (x3_3.length : Int) ≤ x17_2
       ·rw [if_pos c10] at H; have c10b0 := decide_eq_true c10; (try (have c10b8104_0 := c10b0; first | rw [hl104_0] at c10b8104_0 | rw [← hl104_0] at c10b8104_0)); clear c10; by_cases c11 : x3_3.length < 17592186044416; rotate_left
        ·rw [if_neg c11] at H; exact absurd H (by simp)
        rw [if_pos c11] at H; have LMc11 := Aside0.mk c11; clear c11; obtain ⟨y106, hy_⟩ : ∃ y_ : List Int, y_ = (x3_3 ++ [0]) := ⟨_, rfl⟩; (replace H : (spec_RowOfOne.l2 k3 y106 x17_2 (rd (rd_L3 l0 x11_1) x17_2) l0 (l0.length : Int) x11_1 (rd_L3 l0 x11_1) ((rd_L3 l0 x11_1).length : Int) x17_2) = some r := zzY); have Ny106 := Aside0.mk hy_; clear hy_; have H' := Aside0.mk H; clear H; obtain ⟨Ao12, co12, eo12⟩ := Kd.R_slice HO_3.out; subst eo12; (go_wp2_with (first | ((with_reducible refine gate_builtin (b := .append) (xs := #[.tmp 26, .tmp 27]) rfl ?_); (try (refine gate_guard (by rfl) ?_; dsimp only)); at_builtin; refine Kd.R_append (Kd.int .i64) (w0 := w) w.heap.size rfl (.tmp 26) (.tmp 27) 26 3 (.int .i64 0) 8 rfl Try.underlying26 info3 rfl (by decide) (by omega) (.slice Ao12 x3_3.length co12) x3_3 0 [.int .i64 0] (fun _ => True) (fun _ => False) rfl rfl ?aP (fun _ hk => hk.elim) ?aF ?aO ?aB ?aS ?aL ?_; (case aP => exact rfl); (case aB => exact zz0); (case aF => exact (fun _ _ => trivial)); (case aO => exact (by (with_reducible repeat (first | apply Kd.R_alloc | apply Kd.R_drewN | apply Kd.R_drew)); exact HO_3.out)); (case aS => exact (below_size zz0)); (case aL => have := LMc11.out; omega); intro v107 w13 ho hb hg hat; rw [← Ny106.out] at ho; have n_ := zA2 hb ho; clear HB HO_3; obtain ⟨HB, HO108⟩ := n_; clear ho hb hg hat))); go_roundg k3; (case measure => have := HK1.out; have := HK2.out; have := HK3.out; omega); case rel => exact ⟨(y106), H', ⟨by have := HK1.out; have := HK2.out; have := HK3.out; omega⟩, ⟨by (with_reducible repeat (first | apply Kd.R_alloc | apply Kd.R_drewN | apply Kd.R_drew)); exact HO108.out⟩, ⟨zz0⟩⟩
       rw [if_neg c10] at H; have c10b0 := decide_eq_false c10; (try (have c10b8104_0 := c10b0; first | rw [hl104_0] at c10b8104_0 | rw [← hl104_0] at c10b8104_0)); clear c10; by_cases c14 : 0 ≤ x17_2; rotate_left
       ·rw [if_neg c14] at H; exact absurd H (by simp)
       rw [if_pos c14] at H; have c14b0 := decide_eq_true c14; clear c14; by_cases c15 : x17_2 < (x3_3.length : Int); rotate_left
       ·rw [if_neg c15] at H; exact absurd H (by simp)
       rw [if_pos c15] at H; have c15b0 := decide_eq_true c15; (try (have c15b8104_0 := c15b0; first | rw [hl104_0] at c15b8104_0 | rw [← hl104_0] at c15b8104_0)); clear c15; obtain ⟨y110, hy_⟩ : ∃ y_ : List Int, y_ = (x3_3.set (x17_2 : Int).toNat (wrap64 ((rd x3_3 x17_2) + (rd (rd_L3 l0 x11_1) x17_2)))) := ⟨_, rfl⟩; (replace H : (spec_RowOfOne.l1 k3 y110 l0 (l0.length : Int) x11_1 (rd_L3 l0 x11_1) ((rd_L3 l0 x11_1).length : Int) (wrap64 (x17_2 + 1))) = some r := zzY); have Ny110 := Aside0.mk hy_; clear hy_; have H' := Aside0.mk H; clear H; obtain ⟨Ao17, co17, eo17⟩ := Kd.R_slice HO_3.out; subst eo17; have p109 : 0 ≤ (x17_2 : Int) := of_decide_eq_true zz1; have q109 : x17_2 < (x3_3.length : Int) := of_decide_eq_true zz1; obtain ⟨ad109, e109, hx109_0⟩ := Kd.at_int (Kd.R_reads' HO_3.out).2.2 x17_2 p109 q109; cases e109; replace p109 := eq_true p109; replace q109 := eq_true q109; have p16 : 0 ≤ (x17_2 : Int) := of_decide_eq_true zz1; have q16 : (x17_2 : Int) < ((x3_3.length : Int) : Int) := of_decide_eq_true zz1; obtain ⟨go16, co16, eo16, gb16, gl16, cl16, HG16⟩ := Kd.R_form HO_3.out (by omega); (first | cases eo16 | (injection eo16 with ea_ en_ ec_; (first | subst ea_ | (injection ea_ with ea_; subst ea_)); subst ec_; clear en_)); have GB16 := Aside0.mk gb16; have GG16 := Aside0.mk HG16; clear gb16 gl16 HG16; (first | simp only [add_plain] at hx109_0 | skip); obtain ⟨hx16_0, hf16_0⟩ := Kd.R_celln 0 HO_3.out (x17_2 : Int) p16 q16; replace p16 := eq_true p16; replace q16 := eq_true q16; have HP18 := Kd.R_putg HO_3.out (x17_2 : Int) (wrap64 ((rd x3_3 x17_2) + (rd (rd_L3 l0 x11_1) x17_2))); (go_wp2_with (first | ((with_reducible refine gate_store (t := 3) (p := 37) rfl ?_); refine store_event (t := 3) (p := 37) (v := ?vo_w19) (w1 := (wr.setCell ⟨go16, (x17_2 : Int).toNat, none⟩ (.int .i64 (wrap64 ((rd x3_3 x17_2) + (rd (rd_L3 l0 x11_1) x17_2)))))) ?hg ?ho ?hn ?hr ?_; (case ho => rfl); (case hg => rfl); (case hn => rfl); (case hr => first | (go_simp; done) | (go_simp; rfl)); intro w19 hw; have hg : wr.grownBy w19 (some go16) := (by rw [hw]; exact HP18.2); have hp_ : Kd.R (Kd.int .i64) 3 w19 w.heap.size (fun _ => True) (.slice (some ⟨go16, 0, none⟩) x3_3.length co17) y110 := (by rw [hw, Ny110.out]; exact HP18.1); clear HP18; have n_ := zA2 hp_ (by rw [hw]; exact below_set (HB.out) GB16.out : Below w.heap.size w w19); clear HO_3 HB; obtain ⟨HO_3, HB⟩ := n_; clear hg hw hp_))); go_roundg k3; (case measure => have := HK1.out; have := HK2.out; have := HK3.out; omega); case rel => exact ⟨(y110), (wrap64 (x17_2 + 1)), zz2, H', ⟨by have := HK1.out; have := HK2.out; have := HK3.out; omega⟩, ⟨zz3⟩, ⟨zz0⟩⟩
end Go.Proofs.Ytkcbinohpdhbgaa.P
end

section
namespace Go.Proofs.Ytkcbinohpdhbgaa.P
open Go.RowKit Go.Proofs.YtkcbinohpdhbgaaW.PrintWords Go.Proofs.YtkcbinohpdhbgaaW.PrintLast Go.Proofs.YtkcbinohpdhbgaaW.PrintMore
attribute [local go_sem] max2_int min2_int max_two min_two max_three min_three max_four min_four
set_option linter.unusedVariables false
set_option linter.unusedSimpArgs false
def laws_toIntS.l0 : Nat → List Int → List Int → Int → Option (List Int)
 | 0, _, _, _ => none
 | k + 1, x0, x3, x4 => if x4 < (x0.length : Int) then (if 0 ≤ x4 then (if x4 < (x3.length : Int) then (laws_toIntS.l0 k x0 (x3.set (x4 : Int).toNat (rd x0 x4)) (wrap64 (x4 + 1))) else (none)) else (none)) else (some x3)
def laws_toIntS.f (k : Nat) (l0 : List Int) : Option (List Int) := if 0 ≤ (l0.length : Int) then (if ((l0.length : Int) : Int).toNat ≤ 35184372088832 then (laws_toIntS.l0 k l0 (List.replicate ((l0.length : Int) : Int).toNat 0) 0) else (none)) else (none)
theorem laws_toIntS.mono_l : ∀ k, (∀ y0 y1 y2, LeO (laws_toIntS.l0 k y0 y1 y2) (laws_toIntS.l0 (k + 1) y0 y1 y2))
 | 0 => fun _ _ _ r h => by simp [laws_toIntS.l0] at h
 | k + 1 => by
  have ih0 := laws_toIntS.mono_l k
  ·intro y0 y1 y2
   unfold laws_toIntS.l0
   exact zm0
theorem laws_toIntS.mono : ∀ a0 k, LeO (laws_toIntS.f k a0) (laws_toIntS.f (k + 1) a0) := by
 intro a0 k; have ih0 := laws_toIntS.mono_l k; unfold laws_toIntS.f; exact zm0
set_option maxHeartbeats 8000000 in
set_option maxRecDepth 100000 in
theorem laws_toIntS.calls (k : Nat) (A0 : Option Addr) (c0 : Nat) (l0 : List Int) (r : List Int) (w : World) (hr0 : Kd.C (Kd.int .i64) w A0 l0.length l0) (hc0 : l0.length ≤ c0) (h : laws_toIntS.f k l0 = some r) :
  Calls Try.prog 62 #[.slice A0 l0.length c0] w fun e w' => ∃ v0_ : Value, e = .returned (v0_) ∧ Kd.R (Kd.int .i64) 3 w' w.heap.size (fun _ => True) v0_ r ∧ Below w.heap.size w w' := by
 have HR0 := Aside0.mk hr0; have HC0 := Aside0.mk hc0; clear hr0 hc0; have HB := Aside0.mk (Below.refl w.heap.size w); have H : (if 0 ≤ (l0.length : Int) then (if ((l0.length : Int) : Int).toNat ≤ 35184372088832 then (laws_toIntS.l0 k l0 (List.replicate ((l0.length : Int) : Int).toNat 0) 0) else (none)) else (none)) = some r := h; clear h; by_cases c2 : 0 ≤ (l0.length : Int); rotate_left
 ·rw [if_neg c2] at H; exact absurd H (by simp)
 rw [if_pos c2] at H; have c2b0 := eq_true c2; have c2b1 : decide (0 ≤ (l0.length : Int)) = true := decide_eq_true c2; clear c2; by_cases c3 : ((l0.length : Int) : Int).toNat ≤ 35184372088832; rotate_left
 ·rw [if_neg c3] at H; exact absurd H (by simp)
 rw [if_pos c3] at H; have c3b0 := eq_true c3; have c3b1 : decide (((l0.length : Int) : Int).toNat ≤ 35184372088832) = true := decide_eq_true c3; clear c3; obtain ⟨y101, hy_⟩ : ∃ y_ : List Int, y_ = (List.replicate ((l0.length : Int) : Int).toNat 0) := ⟨_, rfl⟩; (replace H : (laws_toIntS.l0 k l0 y101 0) = some r := zzY); have Ny101 := Aside0.mk hy_; clear hy_; have H' := Aside0.mk H; clear H; go_enter Try.func62, Try.ntmps62; (go_wp2_with (first | ((with_reducible refine gate_dst (N := 7) rfl ?_); refine Kd.R_make (Kd.int .i64) _ 3 rfl (N := 7) rfl 26 _ _ rfl (l0.length : Int) rfl rfl Try.underlying26 (.int .i64 0) 8 info3 rfl (by decide) (by omega) 0 (ok := fun _ => True) (okp := fun _ => True) rfl (fun _ hk => hk) trivial (of_decide_eq_true zz1) (Nat.le_trans (Nat.mul_le_mul_right _ (of_decide_eq_true zz1 : (l0.length : Int).toNat ≤ 35184372088832)) (by omega)) (Below.refl _ _) (Nat.le_refl _) ?_; intro v102 w4 ho5 hb hg_ hnew_; clear hg_ hnew_; (first | rw [← Ny101.out] at ho5 | (simp only [Int.reduceToNat] at ho5; rw [← Ny101.out] at ho5)); have n_ := zA2 (Kd.R_lower ho5 (below_size zz0)) (below_step zz0 hb); clear HB; obtain ⟨HO103, HB⟩ := n_; clear hb ho5))); (go_loopg [4] k (fun kq v4 w' => ∃ (x3_1 : List Int) (x4_1 : Int), v4 = .int .i64 x4_1 ∧ Aside0 (laws_toIntS.l0 kq l0 x3_1 x4_1 = some r) ∧ Aside0 (kq ≤ k) ∧ Aside0 (Kd.R (Kd.int .i64) 3 w' w.heap.size (fun _ => True) v102 x3_1) ∧ Aside0 (Below w.heap.size w w'))); case atStart => exact ⟨(y101), (0), zz2, H', ⟨Nat.le_refl _⟩, ⟨by (with_reducible repeat (first | apply Kd.R_alloc | apply Kd.R_drewN | apply Kd.R_drew)); exact HO103.out⟩, ⟨zz0⟩⟩
 case round =>
  clear H'; (try clear c2); (try clear c2b0); (try clear c2b1); (try clear p2); (try clear c3); (try clear c3b0); (try clear c3b1); obtain ⟨x3_1, x4_1, rfl, HA, HK1, HO_3, HB⟩ := hrel
  cases gk with
  | zero => exact absurd HA.out (by simp [laws_toIntS.l0])
  | succ k1 =>
   have H := HA.out; clear HA; simp only [laws_toIntS.l0] at H; by_cases c6 : x4_1 < (l0.length : Int); rotate_left
   ·rw [if_neg c6] at H; have c6b0 := decide_eq_false c6; clear c6; obtain rfl := Option.some.inj H; go_wp2; go_ret; exact ⟨_, zz6, zz3, zz0⟩
   rw [if_pos c6] at H; have c6b0 := decide_eq_true c6; clear c6; by_cases c7 : 0 ≤ x4_1; rotate_left
   ·rw [if_neg c7] at H; exact absurd H (by simp)
   rw [if_pos c7] at H; have c7b0 := decide_eq_true c7; clear c7; by_cases c8 : x4_1 < (x3_1.length : Int); rotate_left
   ·rw [if_neg c8] at H; exact absurd H (by simp)
   rw [if_pos c8] at H; have c8b0 := decide_eq_true c8; clear c8; obtain ⟨y105, hy_⟩ : ∃ y_ : List Int, y_ = (x3_1.set (x4_1 : Int).toNat (rd l0 x4_1)) := ⟨_, rfl⟩; (replace H : (laws_toIntS.l0 k1 l0 y105 (wrap64 (x4_1 + 1))) = some r := zzY); have Ny105 := Aside0.mk hy_; clear hy_; have H' := Aside0.mk H; clear H; have p104 : 0 ≤ (x4_1 : Int) := of_decide_eq_true zz1; have q104 : x4_1 < (l0.length : Int) := of_decide_eq_true zz1; obtain ⟨ad104, e104, hx104_0⟩ := Kd.at_int HR0.out x4_1 p104 q104; cases e104; replace hx104_0 := (HB.out.cell (World.block_lt_of_cell? w _ hx104_0)).trans hx104_0; replace p104 := eq_true p104; replace q104 := eq_true q104; have p9 : 0 ≤ (x4_1 : Int) := of_decide_eq_true zz1; have q9 : (x4_1 : Int) < ((x3_1.length : Int) : Int) := of_decide_eq_true zz1; obtain ⟨go9, co9, eo9, gb9, gl9, cl9, HG9⟩ := Kd.R_form HO_3.out (by omega); (first | cases eo9 | (injection eo9 with ea_ en_ ec_; (first | subst ea_ | (injection ea_ with ea_; subst ea_)); subst ec_; clear en_)); have GB9 := Aside0.mk gb9; have GG9 := Aside0.mk HG9; clear gb9 gl9 HG9; obtain ⟨hx9_0, hf9_0⟩ := Kd.R_celln 0 HO_3.out (x4_1 : Int) p9 q9; replace p9 := eq_true p9; replace q9 := eq_true q9; have HP10 := Kd.R_putg HO_3.out (x4_1 : Int) (rd l0 x4_1); (go_wp2_with (first | ((with_reducible refine gate_store (t := 3) (p := 20) rfl ?_); refine store_event (t := 3) (p := 20) (v := ?vo_w11) (w1 := (wr.setCell ⟨go9, (x4_1 : Int).toNat, none⟩ (.int .i64 (rd l0 x4_1)))) ?hg ?ho ?hn ?hr ?_; (case ho => rfl); (case hg => rfl); (case hn => rfl); (case hr => first | (go_simp; done) | (go_simp; rfl)); intro w11 hw; have hg : wr.grownBy w11 (some go9) := (by rw [hw]; exact HP10.2); have hp_ : Kd.R (Kd.int .i64) 3 w11 w.heap.size (fun _ => True) (.slice (some ⟨go9, 0, none⟩) x3_1.length co9) y105 := (by rw [hw, Ny105.out]; exact HP10.1); clear HP10; have n_ := zA2 hp_ (by rw [hw]; exact below_set (HB.out) GB9.out : Below w.heap.size w w11); clear HO_3 HB; obtain ⟨HO_3, HB⟩ := n_; clear hg hw hp_))); go_roundg k1; (case measure => have := HK1.out; omega); case rel => exact ⟨(y105), (wrap64 (x4_1 + 1)), zz2, H', ⟨by have := HK1.out; omega⟩, ⟨zz3⟩, ⟨zz0⟩⟩
def laws_toIntSS.l0 : Nat → List (List Int) → List (List Int) → Int → Option ((List (List Int)))
 | 0, _, _, _ => none
 | k + 1, x0, x3, x4 => if x4 < (x0.length : Int) then (if 0 ≤ x4 then ((laws_toIntS.f k (rd_L3 x0 x4)).bind fun t105 => (if x4 < (x3.length : Int) then (laws_toIntSS.l0 k x0 (x3.set (x4 : Int).toNat t105) (wrap64 (x4 + 1))) else (none))) else (none)) else (some x3)
def laws_toIntSS.f (k : Nat) (l0 : List (List Int)) : Option ((List (List Int))) := if 0 ≤ (l0.length : Int) then (if ((l0.length : Int) : Int).toNat ≤ 11728124029610 then (laws_toIntSS.l0 k l0 (List.replicate ((l0.length : Int) : Int).toNat []) 0) else (none)) else (none)
theorem laws_toIntSS.mono_l : ∀ k, (∀ y0 y1 y2, LeO (laws_toIntSS.l0 k y0 y1 y2) (laws_toIntSS.l0 (k + 1) y0 y1 y2))
 | 0 => fun _ _ _ r h => by simp [laws_toIntSS.l0] at h
 | k + 1 => by
  have ih0 := laws_toIntSS.mono_l k
  ·intro y0 y1 y2
   unfold laws_toIntSS.l0
   exact zm3
theorem laws_toIntSS.mono : ∀ a0 k, LeO (laws_toIntSS.f k a0) (laws_toIntSS.f (k + 1) a0) := by
 intro a0 k; have ih0 := laws_toIntSS.mono_l k; unfold laws_toIntSS.f; exact zm3
set_option maxHeartbeats 8000000 in
set_option maxRecDepth 100000 in
theorem laws_toIntSS.calls (k : Nat) (A0 : Option Addr) (c0 : Nat) (l0 : List (List Int)) (r : List (List Int)) (w : World) (hr0 : Kd.C (Kd.slice 3 (Kd.int .i64)) w A0 l0.length l0) (hc0 : l0.length ≤ c0) (h : laws_toIntSS.f k l0 = some r) :
  Calls Try.prog 30 #[.slice A0 l0.length c0] w fun e w' => ∃ v0_ : Value, e = .returned (v0_) ∧ Kd.S (Kd.slice 3 (Kd.int .i64)) 26 w' w.heap.size (fun _ => True) v0_ r ∧ Below w.heap.size w w' := by
 have HR0 := Aside0.mk hr0; have HC0 := Aside0.mk hc0; clear hr0 hc0; have HB := Aside0.mk (Below.refl w.heap.size w); have H : (if 0 ≤ (l0.length : Int) then (if ((l0.length : Int) : Int).toNat ≤ 11728124029610 then (laws_toIntSS.l0 k l0 (List.replicate ((l0.length : Int) : Int).toNat []) 0) else (none)) else (none)) = some r := h; clear h; by_cases c2 : 0 ≤ (l0.length : Int); rotate_left
 ·rw [if_neg c2] at H; exact absurd H (by simp)
 rw [if_pos c2] at H; have c2b0 := eq_true c2; have c2b1 : decide (0 ≤ (l0.length : Int)) = true := decide_eq_true c2; clear c2; by_cases c3 : ((l0.length : Int) : Int).toNat ≤ 11728124029610; rotate_left
 ·rw [if_neg c3] at H; exact absurd H (by simp)
 rw [if_pos c3] at H; have c3b0 := eq_true c3; have c3b1 : decide (((l0.length : Int) : Int).toNat ≤ 11728124029610) = true := decide_eq_true c3; clear c3; obtain ⟨y101, hy_⟩ : ∃ y_ : List (List Int), y_ = (List.replicate ((l0.length : Int) : Int).toNat []) := ⟨_, rfl⟩; (replace H : (laws_toIntSS.l0 k l0 y101 0) = some r := zzY); have Ny101 := Aside0.mk hy_; clear hy_; have H' := Aside0.mk H; clear H; go_enter Try.func30, Try.ntmps30; (go_wp2_with (first | ((with_reducible refine gate_dst (N := 7) rfl ?_); refine Kd.S_make (Kd.slice 3 (Kd.int .i64)) _ 26 rfl (N := 7) rfl 50 _ _ rfl (l0.length : Int) rfl rfl Try.underlying50 (.slice none 0 0) 24 info26 rfl (by decide) (by omega) [] (ok := fun _ => True) (okp := fun _ => True) ⟨_, rfl, Kd.R_nil _ _ _ _ _⟩ (fun _ hk => hk) trivial (of_decide_eq_true zz1) (Nat.le_trans (Nat.mul_le_mul_right _ (of_decide_eq_true zz1 : (l0.length : Int).toNat ≤ 11728124029610)) (by omega)) (Below.refl _ _) (Nat.le_refl _) ?_; intro v102 w4 ho5 hb hg_ hnew_; clear hg_ hnew_; (first | rw [← Ny101.out] at ho5 | (simp only [Int.reduceToNat] at ho5; rw [← Ny101.out] at ho5)); have n_ := zA2 (Kd.S_lower ho5 (below_size zz0)) (below_step zz0 hb); clear HB; obtain ⟨HO103, HB⟩ := n_; clear hb ho5))); (go_loopg [4] k (fun kq v4 w' => ∃ (x3_1 : List (List Int)) (x4_1 : Int), v4 = .int .i64 x4_1 ∧ Aside0 (laws_toIntSS.l0 kq l0 x3_1 x4_1 = some r) ∧ Aside0 (kq ≤ k) ∧ Aside0 (Kd.S (Kd.slice 3 (Kd.int .i64)) 26 w' w.heap.size (fun _ => True) v102 x3_1) ∧ Aside0 (Below w.heap.size w w'))); case atStart => exact ⟨(y101), (0), zz2, H', ⟨Nat.le_refl _⟩, ⟨by (with_reducible repeat (first | apply Kd.S_alloc | apply Kd.S_drewN | apply Kd.S_drew)); exact HO103.out⟩, ⟨zz0⟩⟩
 case round =>
  clear H'; (try clear c2); (try clear c2b0); (try clear c2b1); (try clear p2); (try clear c3); (try clear c3b0); (try clear c3b1); obtain ⟨x3_1, x4_1, rfl, HA, HK1, HO_3, HB⟩ := hrel
  cases gk with
  | zero => exact absurd HA.out (by simp [laws_toIntSS.l0])
  | succ k1 =>
   have H := HA.out; clear HA; simp only [laws_toIntSS.l0] at H; by_cases c6 : x4_1 < (l0.length : Int); rotate_left
   ·rw [if_neg c6] at H; have c6b0 := decide_eq_false c6; (try (have c6b8104_0 := c6b0; first | rw [hl104_0] at c6b8104_0 | rw [← hl104_0] at c6b8104_0)); clear c6; obtain rfl := Option.some.inj H; go_wp2; go_ret; exact ⟨_, zz6, by (with_reducible repeat (first | apply Kd.S_alloc | apply Kd.S_drewN | apply Kd.S_drew)); exact HO_3.out, zz0⟩
   rw [if_pos c6] at H; have c6b0 := decide_eq_true c6; clear c6; by_cases c7 : 0 ≤ x4_1; rotate_left
   ·rw [if_neg c7] at H; exact absurd H (by simp)
   rw [if_pos c7] at H; have c7b0 := decide_eq_true c7; clear c7; replace H := Option.bind_eq_some_iff.mp H; obtain ⟨t105, A80, H⟩ := H; (try dsimp only at H); have A8 := Aside0.mk A80; clear A80; by_cases c9 : x4_1 < (x3_1.length : Int); rotate_left
   ·rw [if_neg c9] at H; exact absurd H (by simp)
   rw [if_pos c9] at H; have c9b0 := decide_eq_true c9; clear c9; obtain ⟨y108, hy_⟩ : ∃ y_ : List (List Int), y_ = (x3_1.set (x4_1 : Int).toNat t105) := ⟨_, rfl⟩; (replace H : (laws_toIntSS.l0 k1 l0 y108 (wrap64 (x4_1 + 1))) = some r := zzY); have Ny108 := Aside0.mk hy_; clear hy_; have H' := Aside0.mk H; clear H; have p104 : 0 ≤ (x4_1 : Int) := of_decide_eq_true zz1; have q104 : x4_1 < (l0.length : Int) := of_decide_eq_true zz1; obtain ⟨ad104, A104_0, c104_0, e104, hx104_0, hl104_0, hi104_0⟩ := at_L3 HR0.out x4_1 p104 q104; cases e104; replace hx104_0 := (HB.out.cell (World.block_lt_of_cell? w _ hx104_0)).trans hx104_0; have HR104_0 := Aside0.mk hi104_0; have HC104_0 := Aside0.mk hl104_0; clear hi104_0 hl104_0; replace p104 := eq_true p104; replace q104 := eq_true q104; (go_wp2_with (first | ((with_reducible refine gate_callee (f := 62) rfl ?_); refine goesL_ (some 20) rfl rfl Try.func62 (by kernel_rfl) rfl #[.slice A104_0 (rd_L3 l0 x4_1).length c104_0] rfl zz7 ?_; (with_reducible refine (laws_toIntS.calls k1 _ _ (rd_L3 l0 x4_1) t105 _ ?side1 ?side2 A8.out).mono ?_); (case side1 => repeat (first | exact (Kd.C_below HR104_0.out HB.out) | (with_reducible refine Kd.C_alloc ?_ _) | (with_reducible refine Kd.C_drewN ?_ _) | (with_reducible refine Kd.C_drew ?_))); (case side2 => exact HC104_0.out); rintro e w11 ⟨v106, rfl, ho0, hb⟩; refine ⟨_, rfl, ?_⟩; have n_ := zA3 (Kd.S_elder' (by (with_reducible repeat (first | apply Kd.S_alloc | apply Kd.S_drewN | apply Kd.S_drew)); exact HO_3.out) (Kd.R_base ho0) hb) (Kd.R_lower ho0 (below_size zz0)) (below_step zz0 hb); clear HO_3 HB; obtain ⟨HO_3, HO107, HB⟩ := n_; clear ho0 hb; have p10 : 0 ≤ (x4_1 : Int) := of_decide_eq_true zz1; have q10 : (x4_1 : Int) < ((x3_1.length : Int) : Int) := of_decide_eq_true zz1; obtain ⟨go10, co10, eo10, gb10, gl10, cl10, HG10⟩ := Kd.S_form HO_3.out (by omega); (first | cases eo10 | (injection eo10 with ea_ en_ ec_; (first | subst ea_ | (injection ea_ with ea_; subst ea_)); subst ec_; clear en_)); have GB10 := Aside0.mk gb10; have GG10 := Aside0.mk HG10; clear gb10 gl10 HG10; obtain ⟨_, ce10, hcl10, hM10, hcc10, hfr10, _, _⟩ := Kd.S_elem HO_3.out [] (x4_1 : Int) p10 q10; obtain ⟨ve10_0, rfl, ge10_0⟩ := hM10; have hx10_0 := hcc10 0 _ rfl; have hf10_0 := hfr10 0; (try simp only [show ((Kd.slice 3 (Kd.int .i64))).sz = 1 from rfl, Nat.mul_one, Nat.add_zero] at hx10_0); (try simp only [show ((Kd.slice 3 (Kd.int .i64))).sz = 1 from rfl, Nat.mul_one, Nat.add_zero] at hf10_0); clear hcl10 hcc10 hfr10; (try clear hM10); replace p10 := eq_true p10; replace q10 := eq_true q10; have n_ := Aside0.mk (Kd.S_mono (ok' := (fun k_ => some k_ ≠ (v106 : Value).ownBlock)) HO_3.out (fun k_ hk => hk.2)); clear HO_3; have HO_3 := n_; clear n_; have HX12 := Aside0.mk (show Kd.S (Kd.slice 3 (Kd.int .i64)) 26 w11 w.heap.size (fun k_ => ((fun _ => True)) k_ ∧ ¬ ((fun k_ => some k_ = (v106 : Value).ownBlock)) k_) (.slice (some ⟨go10, 0, none⟩) x3_1.length co10) x3_1 from (by (with_reducible repeat (first | apply Kd.S_alloc | apply Kd.S_drewN | apply Kd.S_drew)); exact Kd.S_mono HO_3.out (fun k_ hk => ⟨trivial, fun e_ => hk e_⟩))); obtain ⟨oki12, ce12, hcl12, hM12, hcc12, hfr12, hoki12, hH12⟩ := Kd.S_elem HX12.out [] (x4_1 : Int) (of_decide_eq_true zz1) (by have h_ : (x4_1 : Int) < ((x3_1.length : Int) : Int) := of_decide_eq_true zz1; first | exact h_ | (have e_ := (Kd.S_reads' HO_3.out).1; omega) | simpa using h_); obtain ⟨ve12_0, rfl, ge12_0⟩ := hM12; have HP12 := Kd.S_seg hH12 (of_decide_eq_true zz1) (by have h_ : (x4_1 : Int) < ((x3_1.length : Int) : Int) := of_decide_eq_true zz1; first | exact h_ | (have e_ := (Kd.S_reads' HO_3.out).1; omega) | simpa using h_) (seg := [v106]) (j := 0) (show 1 ≤ 1 from by decide) (x' := t105) (Kd.M_row (Kd.R_mono (Kd.R_tight rfl (Kd.R_mono (ok' := fun k_ => ((fun _ => True)) k_ ∧ k_ ≠ go10) (Kd.R_apart' (HO107.out) (Kd.S_typed HO_3.out) (by decide)) (fun k_ hk => ⟨trivial, fun e_ => (hk.2) (by rw [e_]; rfl)⟩))) (fun _ h_ => Or.inr (h_)))) (fun _ hk => hk) (fun k_ hk_ => ((Kd.R_mono (ok' := fun k_ => ((fun _ => True)) k_ ∧ k_ ≠ go10) (Kd.R_apart' (HO107.out) (Kd.S_typed HO_3.out) (by decide)) (fun k_ hk => ⟨trivial, fun e_ => (hk.2) (by rw [e_]; rfl)⟩))).1 k_ hk_.symm); have hx12_0 := hcc12 0 _ rfl; (try simp only [show ((Kd.slice 3 (Kd.int .i64))).sz = 1 from rfl, Nat.mul_one, Nat.add_zero] at hx12_0); have hf12_0 := hfr12 0; (try simp only [show ((Kd.slice 3 (Kd.int .i64))).sz = 1 from rfl, Nat.mul_one, Nat.add_zero] at hf12_0); clear hcl12 hcc12 hfr12; (try clear hM12); clear hoki12 hH12; (try simp only [show ((Kd.slice 3 (Kd.int .i64))).sz = 1 from rfl, Nat.mul_one, Nat.add_zero] at HP12)) | ((with_reducible refine gate_store (t := 26) (p := 21) rfl ?_); refine store_event (t := 26) (p := 21) (v := ?vo_w13) (w1 := (w11.setCell ⟨go10, (x4_1 : Int).toNat, none⟩ (v106))) ?hg ?ho ?hn ?hr ?_; (case ho => rfl); (case hg => rfl); (case hn => rfl); (case hr => first | (go_simp; done) | (go_simp; rfl) | (obtain ⟨_, _, hsl_⟩ := Kd.R_slice (‹Aside0 (Kd.R _ _ _ _ _ v106 _)›).out; subst hsl_; first | (go_simp; done) | (go_simp; rfl)) | (obtain ⟨_, _, hsl_⟩ := Kd.S_slice (‹Aside0 (Kd.S _ _ _ _ _ v106 _)›).out; subst hsl_; first | (go_simp; done) | (go_simp; rfl)) | (obtain ⟨_, _, hsl_⟩ := Kd.V_slice (‹Aside0 (Kd.V _ _ _ _ _ v106 _)›).out; subst hsl_; first | (go_simp; done) | (go_simp; rfl)) | (obtain ⟨_, _, hsl_⟩ := Kd.N_slice (‹Aside0 (Kd.N _ _ _ _ _ v106 _)›).out; subst hsl_; first | (go_simp; done) | (go_simp; rfl))); intro w13 hw; have hg : w11.grownBy w13 (some go10) := (by rw [hw]; exact HP12.2); have hp_ : Kd.S (Kd.slice 3 (Kd.int .i64)) 26 w13 w.heap.size (fun _ => True) (.slice (some ⟨go10, 0, none⟩) x3_1.length co10) y108 := (by rw [hw, Ny108.out]; exact HP12.1); clear HP12; have n_ := zA2 hp_ (by rw [hw]; exact below_set (HB.out) GB10.out : Below w.heap.size w w13); clear HO_3 HB HO107; obtain ⟨HO_3, HB⟩ := n_; clear hg hw hp_))); go_roundg k1; (case measure => have := HK1.out; omega); case rel => exact ⟨(y108), (wrap64 (x4_1 + 1)), zz2, H', ⟨by have := HK1.out; omega⟩, ⟨by (with_reducible repeat (first | apply Kd.S_alloc | apply Kd.S_drewN | apply Kd.S_drew)); exact HO_3.out⟩, ⟨zz0⟩⟩
def impl_trimmed.l0 : Nat → List Int → Option (List Int)
 | 0, _ => none
 | k + 1, x0 => if (x0.length : Int) > 0 then (if 0 ≤ (wrap64 ((x0.length : Int) - 1)) then (if (wrap64 ((x0.length : Int) - 1)) < (x0.length : Int) then (if (rd x0 (wrap64 ((x0.length : Int) - 1))) = 0 then (if (wrap64 ((x0.length : Int) - 1)) ≤ (x0.length : Int) then (impl_trimmed.l0 k (x0.take ((wrap64 ((x0.length : Int) - 1)) : Int).toNat)) else (none)) else (some x0)) else (none)) else (none)) else (some x0)
def impl_trimmed.f (k : Nat) (l0 : List Int) : Option (List Int) := impl_trimmed.l0 k l0
theorem impl_trimmed.mono_l : ∀ k, (∀ y0, LeO (impl_trimmed.l0 k y0) (impl_trimmed.l0 (k + 1) y0))
 | 0 => fun _ r h => by simp [impl_trimmed.l0] at h
 | k + 1 => by
  have ih0 := impl_trimmed.mono_l k
  ·intro y0
   unfold impl_trimmed.l0
   exact zm0
theorem impl_trimmed.mono : ∀ a0 k, LeO (impl_trimmed.f k a0) (impl_trimmed.f (k + 1) a0) := by
 intro a0 k; have ih0 := impl_trimmed.mono_l k; unfold impl_trimmed.f; exact zm0
set_option maxHeartbeats 8000000 in
set_option maxRecDepth 100000 in
theorem impl_trimmed.calls (k : Nat) (P0_ : Nat → Prop) (A0 : Option Addr) (c0 : Nat) (l0 : List Int) (r : List Int) (w : World) (hs0 : Kd.V (Kd.int .i64) 3 w w.heap.size (fun k_ => P0_ k_) (.slice A0 l0.length c0) l0) (h : impl_trimmed.f k l0 = some r) :
  Calls Try.prog 63 #[.slice A0 l0.length c0] w fun e w' => ∃ v0_ : Value, e = .returned (v0_) ∧ Kd.V (Kd.int .i64) 3 w' w.heap.size (fun k_ => (P0_ k_ ∨ w.heap.size ≤ k_)) v0_ r ∧ Below w.heap.size w w' := by
 have HO0 := Aside0.mk (show Kd.V (Kd.int .i64) 3 w w.heap.size (fun k_ => (P0_ k_ ∨ w.heap.size ≤ k_)) (.slice A0 l0.length c0) l0 from Kd.V_mono hs0 (fun k_ hk => .inl hk)); have HB := Aside0.mk (Below.refl w.heap.size w); have H : (impl_trimmed.l0 k l0) = some r := h; clear h; have H' := Aside0.mk H; clear H; go_enter Try.func63, Try.ntmps63; go_wp2; (go_loopg [0] k (fun kq v0 w' => ∃ (x0_1 : List Int), Aside0 (impl_trimmed.l0 kq x0_1 = some r) ∧ Aside0 (kq ≤ k) ∧ Aside0 (Kd.V (Kd.int .i64) 3 w' w.heap.size (fun k_ => (P0_ k_ ∨ w.heap.size ≤ k_)) v0 x0_1) ∧ Aside0 (Below w.heap.size w w'))); case atStart => exact ⟨(l0), H', ⟨Nat.le_refl _⟩, ⟨by (with_reducible repeat (first | apply Kd.V_alloc | apply Kd.V_drewN | apply Kd.V_drew)); exact HO0.out⟩, ⟨zz0⟩⟩
 case round =>
  clear H'; obtain ⟨x0_1, HA, HK1, HO_0, HB⟩ := hrel
  cases gk with
  | zero => exact absurd HA.out (by simp [impl_trimmed.l0])
  | succ k1 =>
   have H := HA.out; clear HA; simp only [impl_trimmed.l0] at H; by_cases c2 : (x0_1.length : Int) > 0; rotate_left
   ·rw [if_neg c2] at H; have c2b0 : decide (0 < (x0_1.length : Int)) = false := decide_eq_false c2; have c2b1 : decide (0 < x0_1.length) = false := decide_eq_false (by omega); clear c2; obtain rfl := Option.some.inj H; obtain ⟨Ao12, co12, eo12⟩ := Kd.V_slice HO_0.out; subst eo12; go_wp2; go_ret; exact ⟨_, zz6, by (with_reducible repeat (first | apply Kd.V_alloc | apply Kd.V_drewN | apply Kd.V_drew)); exact HO_0.out, zz0⟩
   rw [if_pos c2] at H; have c2b0 : decide (0 < (x0_1.length : Int)) = true := decide_eq_true c2; have c2b1 : decide (0 < x0_1.length) = true := decide_eq_true (by omega); clear c2; obtain ⟨ji3, hji3⟩ : ∃ j_ : Int, (wrap64 ((x0_1.length : Int) - 1)) = j_ := ⟨_, rfl⟩; (replace H : (if 0 ≤ (ji3) then (if (ji3) < (x0_1.length : Int) then (if (rd x0_1 (ji3)) = 0 then (if (ji3) ≤ (x0_1.length : Int) then (impl_trimmed.l0 k1 (x0_1.take ((ji3) : Int).toNat)) else (none)) else (some x0_1)) else (none)) else (none)) = some r := by first | (rw [hji3] at H; exact H) | (simp only [hji3] at H ⊢; exact H)); have hji3w : (IntKind.i64.wrap ((x0_1.length : Int) - 1)) = ji3 := (i64_w _).trans hji3; by_cases c4 : 0 ≤ (ji3); rotate_left
   ·rw [if_neg c4] at H; exact absurd H (by simp)
   rw [if_pos c4] at H; have c4b0 := decide_eq_true c4; clear c4; by_cases c5 : (ji3) < (x0_1.length : Int); rotate_left
   ·rw [if_neg c5] at H; exact absurd H (by simp)
   rw [if_pos c5] at H; have c5b0 := decide_eq_true c5; clear c5; by_cases c6 : (rd x0_1 (ji3)) = 0; rotate_left
   ·rw [if_neg c6] at H; have c6b0 : ((rd x0_1 (ji3)) == 0) = false := beq_eq_false_iff_ne.mpr c6; have c6b1 : ((rd x0_1 (ji3)) != 0) = true := bne_iff_ne.mpr c6; obtain rfl := Option.some.inj H; obtain ⟨Ao11, co11, eo11⟩ := Kd.V_slice HO_0.out; subst eo11; have p101 : 0 ≤ ((ji3) : Int) := of_decide_eq_true zz1; have q101 : (ji3) < (x0_1.length : Int) := of_decide_eq_true zz1; obtain ⟨ad101, e101, hx101_0⟩ := Kd.at_int (Kd.V_reads' HO_0.out).2.2 (ji3) p101 q101; cases e101; replace p101 := eq_true p101; replace q101 := eq_true q101; go_wp2; go_ret; exact ⟨_, by first | rfl | (simp [errW_none, errW_some] <;> rfl) | (simp only [← hji3]; first | rfl | (simp [errW_none, errW_some] <;> rfl)) | (simp [*, errW_none, errW_some] <;> rfl), by (with_reducible repeat (first | apply Kd.V_alloc | apply Kd.V_drewN | apply Kd.V_drew)); exact HO_0.out, zz0⟩
   rw [if_pos c6] at H; have c6b0 : ((rd x0_1 (ji3)) == 0) = true := beq_iff_eq.mpr c6; have c6b1 : ((rd x0_1 (ji3)) != 0) = false := bne_eq_false_iff_eq.mpr c6; clear c6; have c7b0 := eq_true (of_decide_eq_true zz1 : 0 ≤ (ji3)); by_cases c8 : (ji3) ≤ (x0_1.length : Int); rotate_left
   ·rw [if_neg c8] at H; exact absurd H (by simp)
   rw [if_pos c8] at H; have c8b0 := eq_true c8; have c8b1 : decide ((ji3) ≤ (x0_1.length : Int)) = true := decide_eq_true c8; clear c8; obtain ⟨y102, hy_⟩ : ∃ y_ : List Int, y_ = (x0_1.take ((ji3) : Int).toNat) := ⟨_, rfl⟩; (replace H : (impl_trimmed.l0 k1 y102) = some r := zzY); have Ny102 := Aside0.mk hy_; clear hy_; have H' := Aside0.mk H; clear H; obtain ⟨Ao9, co9, eo9⟩ := Kd.V_slice HO_0.out; subst eo9; have p101 : 0 ≤ ((ji3) : Int) := of_decide_eq_true zz1; have q101 : (ji3) < (x0_1.length : Int) := of_decide_eq_true zz1; obtain ⟨ad101, e101, hx101_0⟩ := Kd.at_int (Kd.V_reads' HO_0.out).2.2 (ji3) p101 q101; cases e101; replace p101 := eq_true p101; replace q101 := eq_true q101; have q10 : ((ji3) : Int) ≤ ((x0_1.length : Int) : Int) := of_decide_eq_true zz1; obtain ⟨i010, hi010, _, hsz10, _⟩ := info_parts info3; have hroom10 : x0_1.length ≤ co9 := (Kd.V_reads' HO_0.out).2.1; have hC10 : Kd.F (Kd.int .i64) _ _ (some ad101) x0_1.length x0_1 := (Kd.V_at (base := w.heap.size) HO_0.out).2.2; have hcut10 := cut_to (P := Try.prog) 26 3 .i64 Try.underlying26 hi010 (some ad101) x0_1.length co9 (ji3) (of_decide_eq_true zz1) q10 hroom10; have hr10 := Kd.F_take (m := ((ji3) : Int).toNat) hC10 (by omega); have hy10 : y102.length = ((ji3) : Int).toNat := (by rw [Ny102.out, List.length_take]; omega); rw [← Ny102.out] at hr10; rw [← hy10] at hcut10; have HO106 := Aside0.mk (show Kd.V (Kd.int .i64) 3 _ w.heap.size _ (.slice (some ad101) y102.length co9) y102 from Kd.V_mk (by omega) hr10); have HC106 := Aside0.mk (show y102.length ≤ co9 from by omega); clear hr10 hC10 hroom10 hi010 hsz10; have KY10 := Aside0.mk hy10; clear hy10; replace q10 := eq_true q10; go_wp2; go_roundg k1; (case measure => have := HK1.out; omega); case rel => exact ⟨(y102), H', ⟨by have := HK1.out; omega⟩, ⟨by (with_reducible repeat (first | apply Kd.V_alloc | apply Kd.V_drewN | apply Kd.V_drew)); exact HO106.out⟩, ⟨zz0⟩⟩
set_option maxHeartbeats 8000000 in
set_option maxRecDepth 100000 in
theorem impl_trimmed.callsR (k : Nat) (P0_ : Nat → Prop) (base : Nat) (u9_ : Value) (l0 : List Int) (r : List Int) (w : World) (hs0 : Kd.R (Kd.int .i64) 3 w base P0_ u9_ l0) (h : impl_trimmed.f k l0 = some r) :
  Calls Try.prog 63 #[u9_] w fun e w' => ∃ v0_ : Value, e = .returned (v0_) ∧ Kd.R (Kd.int .i64) 3 w' base P0_ v0_ r ∧ Below w.heap.size w w' := by
 have HO0 := Aside0.mk hs0; have HB := Aside0.mk (Below.refl w.heap.size w); have H : (impl_trimmed.l0 k l0) = some r := h; clear h; have H' := Aside0.mk H; clear H; go_enter Try.func63, Try.ntmps63; go_wp2; (go_loopg [0] k (fun kq v0 w' => ∃ (x0_1 : List Int), Aside0 (impl_trimmed.l0 kq x0_1 = some r) ∧ Aside0 (kq ≤ k) ∧ Aside0 (Kd.R (Kd.int .i64) 3 w' base P0_ v0 x0_1) ∧ Aside0 (Below w.heap.size w w'))); case atStart => exact ⟨(l0), H', ⟨Nat.le_refl _⟩, ⟨by (with_reducible repeat (first | apply Kd.R_alloc | apply Kd.R_drewN | apply Kd.R_drew)); exact HO0.out⟩, ⟨zz0⟩⟩
 case round =>
  clear H'; obtain ⟨x0_1, HA, HK1, HO_0, HB⟩ := hrel
  cases gk with
  | zero => exact absurd HA.out (by simp [impl_trimmed.l0])
  | succ k1 =>
   have H := HA.out; clear HA; simp only [impl_trimmed.l0] at H; by_cases c2 : (x0_1.length : Int) > 0; rotate_left
   ·rw [if_neg c2] at H; have c2b0 : decide (0 < (x0_1.length : Int)) = false := decide_eq_false c2; have c2b1 : decide (0 < x0_1.length) = false := decide_eq_false (by omega); clear c2; obtain rfl := Option.some.inj H; obtain ⟨Ao12, co12, eo12⟩ := Kd.R_slice HO_0.out; subst eo12; go_wp2; go_ret; exact ⟨_, zz6, by (with_reducible repeat (first | apply Kd.R_alloc | apply Kd.R_drewN | apply Kd.R_drew)); exact HO_0.out, zz0⟩
   rw [if_pos c2] at H; have c2b0 : decide (0 < (x0_1.length : Int)) = true := decide_eq_true c2; have c2b1 : decide (0 < x0_1.length) = true := decide_eq_true (by omega); clear c2; obtain ⟨ji3, hji3⟩ : ∃ j_ : Int, (wrap64 ((x0_1.length : Int) - 1)) = j_ := ⟨_, rfl⟩; (replace H : (if 0 ≤ (ji3) then (if (ji3) < (x0_1.length : Int) then (if (rd x0_1 (ji3)) = 0 then (if (ji3) ≤ (x0_1.length : Int) then (impl_trimmed.l0 k1 (x0_1.take ((ji3) : Int).toNat)) else (none)) else (some x0_1)) else (none)) else (none)) = some r := by first | (rw [hji3] at H; exact H) | (simp only [hji3] at H ⊢; exact H)); have hji3w : (IntKind.i64.wrap ((x0_1.length : Int) - 1)) = ji3 := (i64_w _).trans hji3; by_cases c4 : 0 ≤ (ji3); rotate_left
   ·rw [if_neg c4] at H; exact absurd H (by simp)
   rw [if_pos c4] at H; have c4b0 := decide_eq_true c4; clear c4; by_cases c5 : (ji3) < (x0_1.length : Int); rotate_left
   ·rw [if_neg c5] at H; exact absurd H (by simp)
   rw [if_pos c5] at H; have c5b0 := decide_eq_true c5; clear c5; by_cases c6 : (rd x0_1 (ji3)) = 0; rotate_left
   ·rw [if_neg c6] at H; have c6b0 : ((rd x0_1 (ji3)) == 0) = false := beq_eq_false_iff_ne.mpr c6; have c6b1 : ((rd x0_1 (ji3)) != 0) = true := bne_iff_ne.mpr c6; obtain rfl := Option.some.inj H; obtain ⟨Ao11, co11, eo11⟩ := Kd.R_slice HO_0.out; subst eo11; have p101 : 0 ≤ ((ji3) : Int) := of_decide_eq_true zz1; have q101 : (ji3) < (x0_1.length : Int) := of_decide_eq_true zz1; obtain ⟨ad101, e101, hx101_0⟩ := Kd.at_int (Kd.R_reads' HO_0.out).2.2 (ji3) p101 q101; cases e101; replace p101 := eq_true p101; replace q101 := eq_true q101; go_wp2; go_ret; exact ⟨_, by first | rfl | (simp [errW_none, errW_some] <;> rfl) | (simp only [← hji3]; first | rfl | (simp [errW_none, errW_some] <;> rfl)) | (simp [*, errW_none, errW_some] <;> rfl), by (with_reducible repeat (first | apply Kd.R_alloc | apply Kd.R_drewN | apply Kd.R_drew)); exact HO_0.out, zz0⟩
   rw [if_pos c6] at H; have c6b0 : ((rd x0_1 (ji3)) == 0) = true := beq_iff_eq.mpr c6; have c6b1 : ((rd x0_1 (ji3)) != 0) = false := bne_eq_false_iff_eq.mpr c6; clear c6; have c7b0 := eq_true (of_decide_eq_true zz1 : 0 ≤ (ji3)); by_cases c8 : (ji3) ≤ (x0_1.length : Int); rotate_left
   ·rw [if_neg c8] at H; exact absurd H (by simp)
   rw [if_pos c8] at H; have c8b0 := eq_true c8; have c8b1 : decide ((ji3) ≤ (x0_1.length : Int)) = true := decide_eq_true c8; clear c8; obtain ⟨y102, hy_⟩ : ∃ y_ : List Int, y_ = (x0_1.take ((ji3) : Int).toNat) := ⟨_, rfl⟩; (replace H : (impl_trimmed.l0 k1 y102) = some r := zzY); have Ny102 := Aside0.mk hy_; clear hy_; have H' := Aside0.mk H; clear H; obtain ⟨Ao9, co9, eo9⟩ := Kd.R_slice HO_0.out; subst eo9; have p101 : 0 ≤ ((ji3) : Int) := of_decide_eq_true zz1; have q101 : (ji3) < (x0_1.length : Int) := of_decide_eq_true zz1; obtain ⟨ad101, e101, hx101_0⟩ := Kd.at_int (Kd.R_reads' HO_0.out).2.2 (ji3) p101 q101; cases e101; replace p101 := eq_true p101; replace q101 := eq_true q101; have q10 : ((ji3) : Int) ≤ ((x0_1.length : Int) : Int) := of_decide_eq_true zz1; obtain ⟨i010, hi010, _, hsz10, _⟩ := info_parts info3; have hroom10 : x0_1.length ≤ co9 := (Kd.R_reads' HO_0.out).2.1; have hcut10 := cut_to (P := Try.prog) 26 3 .i64 Try.underlying26 hi010 (some ad101) x0_1.length co9 (ji3) (of_decide_eq_true zz1) q10 hroom10; have hy10 : y102.length = ((ji3) : Int).toNat := (by rw [Ny102.out, List.length_take]; omega); rw [← hy10] at hcut10; have HO106 := Aside0.mk (show Kd.R (Kd.int .i64) 3 _ base P0_ (.slice (some ad101) y102.length co9) y102 from by rw [hy10, Ny102.out]; exact Kd.R_take HO_0.out (by omega)); have HC106 := Aside0.mk (show y102.length ≤ co9 from by omega); clear hroom10 hi010 hsz10; have KY10 := Aside0.mk hy10; clear hy10; replace q10 := eq_true q10; go_wp2; go_roundg k1; (case measure => have := HK1.out; omega); case rel => exact ⟨(y102), H', ⟨by have := HK1.out; omega⟩, ⟨by (with_reducible repeat (first | apply Kd.R_alloc | apply Kd.R_drewN | apply Kd.R_drew)); exact HO106.out⟩, ⟨zz0⟩⟩
mutual
def impl_RowOfOne.l0 : Nat → List Int → List (List Int) → Int → Int → Option (List Int)
 | 0, _, _, _, _ => none
 | k + 1, x3, x8, x9, x10 => if x10 < x9 then (if 0 ≤ x10 then (if x10 < (x8.length : Int) then (impl_RowOfOne.l1 k x3 (rd_L3 x8 x10) x8 x9 x10) else (none)) else (none)) else ((impl_trimmed.f k x3).bind fun t101 => (some t101))
def impl_RowOfOne.l1 : Nat → List Int → List Int → List (List Int) → Int → Int → Option (List Int)
 | 0, _, _, _, _, _ => none
 | k + 1, x3, x5, x8, x9, x10 => if (x3.length : Int) < (x5.length : Int) then (if x3.length < 17592186044416 then (impl_RowOfOne.l1 k (x3 ++ [0]) x5 x8 x9 x10) else (none)) else (impl_RowOfOne.l2 k x3 x8 x9 x10 x5 (x5.length : Int) 0)
def impl_RowOfOne.l2 : Nat → List Int → List (List Int) → Int → Int → List Int → Int → Int → Option (List Int)
 | 0, _, _, _, _, _, _, _ => none
 | k + 1, x3, x8, x9, x10, x22, x23, x24 => if x24 < x23 then (if 0 ≤ x24 then (if x24 < (x22.length : Int) then (if x24 < (x3.length : Int) then (impl_RowOfOne.l2 k (x3.set (x24 : Int).toNat (wrap64 ((rd x3 x24) + (rd x22 x24)))) x8 x9 x10 x22 x23 (wrap64 (x24 + 1))) else (none)) else (none)) else (none)) else (impl_RowOfOne.l0 k x3 x8 x9 (wrap64 (x10 + 1)))
end
def impl_RowOfOne.f (k : Nat) (l0 : List (List Int)) : Option (List Int) := impl_RowOfOne.l0 k ([] : List Int) l0 (l0.length : Int) 0
theorem impl_RowOfOne.mono_l : ∀ k, (∀ y0 y1 y2 y3, LeO (impl_RowOfOne.l0 k y0 y1 y2 y3) (impl_RowOfOne.l0 (k + 1) y0 y1 y2 y3)) ∧ (∀ y0 y1 y2 y3 y4, LeO (impl_RowOfOne.l1 k y0 y1 y2 y3 y4) (impl_RowOfOne.l1 (k + 1) y0 y1 y2 y3 y4)) ∧ (∀ y0 y1 y2 y3 y4 y5 y6, LeO (impl_RowOfOne.l2 k y0 y1 y2 y3 y4 y5 y6) (impl_RowOfOne.l2 (k + 1) y0 y1 y2 y3 y4 y5 y6))
 | 0 => ⟨fun _ _ _ _ r h => by simp [impl_RowOfOne.l0] at h, fun _ _ _ _ _ r h => by simp [impl_RowOfOne.l1] at h, fun _ _ _ _ _ _ _ r h => by simp [impl_RowOfOne.l2] at h⟩
 | k + 1 => by
  obtain ⟨ih0, ih1, ih2⟩ := impl_RowOfOne.mono_l k
  refine ⟨?_, ?_, ?_⟩
  ·intro y0 y1 y2 y3
   unfold impl_RowOfOne.l0
   exact zm2
  ·intro y0 y1 y2 y3 y4
   unfold impl_RowOfOne.l1
   exact zm2
  ·intro y0 y1 y2 y3 y4 y5 y6
   unfold impl_RowOfOne.l2
   exact zm2
theorem impl_RowOfOne.mono : ∀ a0 k, LeO (impl_RowOfOne.f k a0) (impl_RowOfOne.f (k + 1) a0) := by
 intro a0 k; obtain ⟨ih0, ih1, ih2⟩ := impl_RowOfOne.mono_l k; unfold impl_RowOfOne.f; exact zm2
set_option maxHeartbeats 8000000 in
set_option maxRecDepth 100000 in
theorem impl_RowOfOne.calls (k : Nat) (A0 : Option Addr) (c0 : Nat) (l0 : List (List Int)) (r : List Int) (w : World) (hr0 : Kd.C (Kd.slice 3 (Kd.int .i64)) w A0 l0.length l0) (hc0 : l0.length ≤ c0) (h : impl_RowOfOne.f k l0 = some r) :
  Calls Try.prog 31 #[.slice A0 l0.length c0] w fun e w' => ∃ v0_ : Value, e = .returned (v0_) ∧ Kd.R (Kd.int .i64) 3 w' w.heap.size (fun _ => True) v0_ r ∧ Below w.heap.size w w' := by
 have HR0 := Aside0.mk hr0; have HC0 := Aside0.mk hc0; clear hr0 hc0; have HB := Aside0.mk (Below.refl w.heap.size w); have H : (impl_RowOfOne.l0 k ([] : List Int) l0 (l0.length : Int) 0) = some r := h; clear h; have H' := Aside0.mk H; clear H; go_enter Try.func31, Try.ntmps31; go_wp2; (go_loopg [3, 10] k (fun kq v3 v10 w' => ∃ (x3_1 : List Int) (x10_1 : Int), v10 = .int .i64 x10_1 ∧ Aside0 (impl_RowOfOne.l0 kq x3_1 l0 (l0.length : Int) x10_1 = some r) ∧ Aside0 (kq ≤ k) ∧ Aside0 (Kd.R (Kd.int .i64) 3 w' w.heap.size (fun k_ => (w.heap.size ≤ k_)) v3 x3_1) ∧ Aside0 (Below w.heap.size w w'))); case atStart => exact ⟨(([] : List Int)), (0), zz2, H', ⟨Nat.le_refl _⟩, ⟨by first | exact Kd.R_nil _ _ _ _ _ | exact Kd.N_nil _ _ _ _ _ | exact Kd.V_nil _ _ _ _ _ | exact Kd.Q_nil _ _ _ _ _ | exact Kd.S_nil _ _ _ _ _⟩, ⟨zz0⟩⟩
 case round =>
  clear H'; obtain ⟨x3_1, x10_1, rfl, HA, HK1, HO_3, HB⟩ := hrel
  cases gk with
  | zero => exact absurd HA.out (by simp [impl_RowOfOne.l0])
  | succ k1 =>
   have H := HA.out; clear HA; simp only [impl_RowOfOne.l0] at H; by_cases c2 : x10_1 < (l0.length : Int); rotate_left
   ·rw [if_neg c2] at H; have c2b0 := decide_eq_false c2; (try (have c2b8104_0 := c2b0; first | rw [hl104_0] at c2b8104_0 | rw [← hl104_0] at c2b8104_0)); (try (have c2b83_3 := c2b0; first | rw [hl3_3] at c2b83_3 | rw [← hl3_3] at c2b83_3)); clear c2; replace H := Option.bind_eq_some_iff.mp H; obtain ⟨t101, A170, H⟩ := H; (try dsimp only at H); have A17 := Aside0.mk A170; clear A170; obtain rfl := Option.some.inj H; obtain ⟨Ao18, co18, eo18⟩ := Kd.R_slice HO_3.out; subst eo18; (go_wp2_with (first | ((with_reducible refine gate_callee (f := 63) rfl ?_); refine goesL_ (some 39) rfl rfl Try.func63 (by kernel_rfl) rfl #[.slice Ao18 x3_1.length co18] rfl zz7 ?_; (with_reducible refine (impl_trimmed.callsR k1 (fun k_ => (w.heap.size ≤ k_)) w.heap.size _ x3_1 t101 _ ?side1 A17.out).mono ?_); (case side1 => exact HO_3.out); rintro e w19 ⟨v102, rfl, ho0, hb⟩; refine ⟨_, rfl, ?_⟩; have n_ := zA3 (Kd.R_below (by (with_reducible repeat (first | apply Kd.R_alloc | apply Kd.R_drewN | apply Kd.R_drew)); exact HO_3.out) hb) (Kd.R_mono ho0 (fun _ _ => trivial)) (below_step zz0 hb); clear HO_3 HB; obtain ⟨HO_3, HO103, HB⟩ := n_; clear ho0 hb))); go_ret; exact ⟨_, zz6, HO103.out, zz0⟩
   rw [if_pos c2] at H; have c2b0 := decide_eq_true c2; clear c2; by_cases c3 : 0 ≤ x10_1; rotate_left
   ·rw [if_neg c3] at H; exact absurd H (by simp)
   rw [if_pos c3] at H; have c3b0 := decide_eq_true c3; clear c3; by_cases c4 : x10_1 < (l0.length : Int); rotate_left
   ·rw [if_neg c4] at H; exact absurd H (by simp)
   rw [if_pos c4] at H; have c4b0 := decide_eq_true c4; clear c4; have H' := Aside0.mk H; clear H; have p104 : 0 ≤ (x10_1 : Int) := of_decide_eq_true zz1; have q104 : x10_1 < (l0.length : Int) := of_decide_eq_true zz1; obtain ⟨ad104, A104_0, c104_0, e104, hx104_0, hl104_0, hi104_0⟩ := at_L3 HR0.out x10_1 p104 q104; cases e104; replace hx104_0 := (HB.out.cell (World.block_lt_of_cell? w _ hx104_0)).trans hx104_0; have HR104_0 := Aside0.mk hi104_0; have HC104_0 := Aside0.mk hl104_0; clear hi104_0 hl104_0; replace p104 := eq_true p104; replace q104 := eq_true q104; go_wp2; (go_loopg [3] k1 (fun kq v3 w' => ∃ (x3_2 : List Int), Aside0 (impl_RowOfOne.l1 kq x3_2 (rd_L3 l0 x10_1) l0 (l0.length : Int) x10_1 = some r) ∧ Aside0 (kq ≤ k1) ∧ Aside0 (Kd.R (Kd.int .i64) 3 w' w.heap.size (fun k_ => (w.heap.size ≤ k_)) v3 x3_2) ∧ Aside0 (Below w.heap.size w w'))); case atStart => exact ⟨(x3_1), H', ⟨Nat.le_refl _⟩, ⟨zz3⟩, ⟨zz0⟩⟩
   case round =>
    clear H'; (try clear c1); (try clear p1); (try clear q1); (try clear hx1); (try clear c2); (try clear c2b0); (try clear p2); (try clear c3); (try clear c3b0); (try clear c4); (try clear c4b0); (try clear hx104_0); (try clear p104); (try clear q104); obtain ⟨x3_2, HA, HK2, HO_3, HB⟩ := hrel
    cases gk with
    | zero => exact absurd HA.out (by simp [impl_RowOfOne.l1])
    | succ k2 =>
     have H := HA.out; clear HA; simp only [impl_RowOfOne.l1] at H; by_cases c5 : (x3_2.length : Int) < ((rd_L3 l0 x10_1).length : Int)
     ·rw [if_pos c5] at H; have c5b0 := decide_eq_true c5; (try (have c5b8104_0 := c5b0; first | rw [hl104_0] at c5b8104_0 | rw [← hl104_0] at c5b8104_0)); have c5b1 : decide (x3_2.length < (rd_L3 l0 x10_1).length) = true := decide_eq_true (Int.ofNat_lt.mp c5); clear c5; by_cases c6 : x3_2.length < 17592186044416; rotate_left
      ·rw [if_neg c6] at H; exact absurd H (by simp)
      rw [if_pos c6] at H; have LMc6 := Aside0.mk c6; clear c6; obtain ⟨y105, hy_⟩ : ∃ y_ : List Int, y_ = (x3_2 ++ [0]) := ⟨_, rfl⟩; (replace H : (impl_RowOfOne.l1 k2 y105 (rd_L3 l0 x10_1) l0 (l0.length : Int) x10_1) = some r := zzY); have Ny105 := Aside0.mk hy_; clear hy_; have H' := Aside0.mk H; clear H; obtain ⟨Ao7, co7, eo7⟩ := Kd.R_slice HO_3.out; subst eo7; (go_wp2_with (first | ((with_reducible refine gate_builtin (b := .append) (xs := #[.tmp 19, .tmp 20]) rfl ?_); at_builtin; refine Kd.R_append (Kd.int .i64) (w0 := w) w.heap.size rfl (.tmp 19) (.tmp 20) 26 3 (.int .i64 0) 8 rfl Try.underlying26 info3 rfl (by decide) (by omega) (.slice Ao7 x3_2.length co7) x3_2 0 [.int .i64 0] (fun k_ => (w.heap.size ≤ k_)) (fun _ => False) rfl rfl ?aP (fun _ hk => hk.elim) ?aF ?aO ?aB ?aS ?aL ?_; (case aP => exact rfl); (case aB => exact zz0); (case aF => exact (fun k_ hk => (Nat.le_trans (below_size zz0) hk))); (case aO => exact (by (with_reducible repeat (first | apply Kd.R_alloc | apply Kd.R_drewN | apply Kd.R_drew)); exact HO_3.out)); (case aS => exact (below_size zz0)); (case aL => have := LMc6.out; omega); intro v106 w8 ho hb hg hat; rw [← Ny105.out] at ho; have n_ := zA2 hb ho; clear HB HO_3; obtain ⟨HB, HO107⟩ := n_; clear ho hb hg hat))); go_roundg k2; (case measure => have := HK1.out; have := HK2.out; omega); case rel => exact ⟨(y105), H', ⟨by have := HK1.out; have := HK2.out; omega⟩, ⟨by (with_reducible repeat (first | apply Kd.R_alloc | apply Kd.R_drewN | apply Kd.R_drew)); exact HO107.out⟩, ⟨zz0⟩⟩
     rw [if_neg c5] at H; have c5b0 := decide_eq_false c5; (try (have c5b8104_0 := c5b0; first | rw [hl104_0] at c5b8104_0 | rw [← hl104_0] at c5b8104_0)); have c5b1 : decide (x3_2.length < (rd_L3 l0 x10_1).length) = false := decide_eq_false (fun h => c5 (Int.ofNat_lt.mpr h)); clear c5; have H' := Aside0.mk H; clear H; obtain ⟨Ao9, co9, eo9⟩ := Kd.R_slice HO_3.out; subst eo9; go_wp2; (go_loopg [24] k2 (fun kq v24 w' => ∃ (x3_3 : List Int) (x24_3 : Int), v24 = .int .i64 x24_3 ∧ Aside0 (impl_RowOfOne.l2 kq x3_3 l0 (l0.length : Int) x10_1 (rd_L3 l0 x10_1) ((rd_L3 l0 x10_1).length : Int) x24_3 = some r) ∧ Aside0 (kq ≤ k2) ∧ Aside0 (Kd.R (Kd.int .i64) 3 w' w.heap.size (fun k_ => (w.heap.size ≤ k_)) (.slice Ao9 x3_2.length co9) x3_3) ∧ Aside0 (Below w.heap.size w w'))); case atStart => exact ⟨(x3_2), (0), zz2, H', ⟨Nat.le_refl _⟩, ⟨zz3⟩, ⟨zz0⟩⟩
     case round =>
      clear H'; (try clear c1); (try clear p1); (try clear q1); (try clear hx1); (try clear c2); (try clear c2b0); (try clear p2); (try clear c3); (try clear c3b0); (try clear c4); (try clear c4b0); (try clear c5); (try clear c5b0); (try clear c5b1); (try clear c6); (try clear hx104_0); (try clear p1); (try clear p104); (try clear p2); (try clear q1); (try clear q104); obtain ⟨x3_3, x24_3, rfl, HA, HK3, HO_3, HB⟩ := hrel; have hl3_3 := (Kd.R_reads' HO_3.out).1; rw [hl3_3] at HO_3; (try simp only [hl3_3])
      cases gk with
      | zero => exact absurd HA.out (by simp [impl_RowOfOne.l2])
      | succ k3 =>
       have H := HA.out; clear HA; simp only [impl_RowOfOne.l2] at H; by_cases c10 : x24_3 < ((rd_L3 l0 x10_1).length : Int); rotate_left
       ·rw [if_neg c10] at H; have c10b0 := decide_eq_false c10; (try (have c10b8104_0 := c10b0; first | rw [hl104_0] at c10b8104_0 | rw [← hl104_0] at c10b8104_0)); (try (have c10b83_3 := c10b0; first | rw [hl3_3] at c10b83_3 | rw [← hl3_3] at c10b83_3)); clear c10; have H' := Aside0.mk H; clear H; go_wp2; (try simp only [← hl3_3]); go_roundg k3; (case measure => have := HK1.out; have := HK2.out; have := HK3.out; omega); case rel => exact ⟨(x3_3), (wrap64 (x10_1 + 1)), zz2, H', ⟨by have := HK1.out; have := HK2.out; have := HK3.out; omega⟩, ⟨by (try simp only [hl3_3]); (with_reducible repeat (first | apply Kd.R_alloc | apply Kd.R_drewN | apply Kd.R_drew)); exact HO_3.out⟩, ⟨zz0⟩⟩
       rw [if_pos c10] at H; have c10b0 := decide_eq_true c10; (try (have c10b8104_0 := c10b0; first | rw [hl104_0] at c10b8104_0 | rw [← hl104_0] at c10b8104_0)); (try (have c10b83_3 := c10b0; first | rw [hl3_3] at c10b83_3 | rw [← hl3_3] at c10b83_3)); clear c10; by_cases c11 : 0 ≤ x24_3; rotate_left
       ·rw [if_neg c11] at H; exact absurd H (by simp)
       rw [if_pos c11] at H; have c11b0 := decide_eq_true c11; clear c11; by_cases c12 : x24_3 < ((rd_L3 l0 x10_1).length : Int); rotate_left
       ·rw [if_neg c12] at H; exact absurd H (by simp)
       rw [if_pos c12] at H; have c12b0 := decide_eq_true c12; (try (have c12b8104_0 := c12b0; first | rw [hl104_0] at c12b8104_0 | rw [← hl104_0] at c12b8104_0)); (try (have c12b83_3 := c12b0; first | rw [hl3_3] at c12b83_3 | rw [← hl3_3] at c12b83_3)); clear c12; by_cases c13 : x24_3 < (x3_3.length : Int); rotate_left
       ·rw [if_neg c13] at H; exact absurd H (by simp)
       rw [if_pos c13] at H; have c13b0 := decide_eq_true c13; (try (have c13b8104_0 := c13b0; first | rw [hl104_0] at c13b8104_0 | rw [← hl104_0] at c13b8104_0)); (try (have c13b83_3 := c13b0; first | rw [hl3_3] at c13b83_3 | rw [← hl3_3] at c13b83_3)); clear c13; obtain ⟨y110, hy_⟩ : ∃ y_ : List Int, y_ = (x3_3.set (x24_3 : Int).toNat (wrap64 ((rd x3_3 x24_3) + (rd (rd_L3 l0 x10_1) x24_3)))) := ⟨_, rfl⟩; (replace H : (impl_RowOfOne.l2 k3 y110 l0 (l0.length : Int) x10_1 (rd_L3 l0 x10_1) ((rd_L3 l0 x10_1).length : Int) (wrap64 (x24_3 + 1))) = some r := zzY); have Ny110 := Aside0.mk hy_; clear hy_; have H' := Aside0.mk H; clear H; have p108 : 0 ≤ (x24_3 : Int) := of_decide_eq_true zz1; have q108 : x24_3 < ((rd_L3 l0 x10_1).length : Int) := of_decide_eq_true zz1; obtain ⟨ad108, e108, hx108_0⟩ := Kd.at_int HR104_0.out x24_3 p108 q108; cases e108; replace hx108_0 := (HB.out.cell (World.block_lt_of_cell? w _ hx108_0)).trans hx108_0; replace p108 := eq_true p108; replace q108 := eq_true q108; have p109 : 0 ≤ (x24_3 : Int) := of_decide_eq_true zz1; have q109 : x24_3 < (x3_3.length : Int) := of_decide_eq_true zz1; obtain ⟨ad109, e109, hx109_0⟩ := Kd.at_int (Kd.R_reads' HO_3.out).2.2 x24_3 p109 q109; cases e109; replace p109 := eq_true p109; replace q109 := eq_true q109; have p14 : 0 ≤ (x24_3 : Int) := of_decide_eq_true zz1; have q14 : (x24_3 : Int) < ((x3_3.length : Int) : Int) := of_decide_eq_true zz1; obtain ⟨go14, co14, eo14, gb14, gl14, cl14, HG14⟩ := Kd.R_form HO_3.out (by omega); (first | cases eo14 | (injection eo14 with ea_ en_ ec_; (first | subst ea_ | (injection ea_ with ea_; subst ea_)); subst ec_; clear en_)); have GB14 := Aside0.mk gb14; have GG14 := Aside0.mk HG14; clear gb14 gl14 HG14; (first | simp only [add_plain] at hx109_0 | skip); obtain ⟨hx14_0, hf14_0⟩ := Kd.R_celln 0 HO_3.out (x24_3 : Int) p14 q14; replace p14 := eq_true p14; replace q14 := eq_true q14; have HP15 := Kd.R_putg HO_3.out (x24_3 : Int) (wrap64 ((rd x3_3 x24_3) + (rd (rd_L3 l0 x10_1) x24_3))); (go_wp2_with (first | ((with_reducible refine gate_store (t := 3) (p := 35) rfl ?_); refine store_event (t := 3) (p := 35) (v := ?vo_w16) (w1 := (wr.setCell ⟨go14, (x24_3 : Int).toNat, none⟩ (.int .i64 (wrap64 ((rd x3_3 x24_3) + (rd (rd_L3 l0 x10_1) x24_3)))))) ?hg ?ho ?hn ?hr ?_; (case ho => rfl); (case hg => rfl); (case hn => rfl); (case hr => first | (go_simp; done) | (go_simp; rfl)); intro w16 hw; have hg : wr.grownBy w16 (some go14) := (by rw [hw]; exact HP15.2); have hp_ : Kd.R (Kd.int .i64) 3 w16 w.heap.size (fun k_ => (w.heap.size ≤ k_)) (.slice (some ⟨go14, 0, none⟩) x3_3.length co9) y110 := (by rw [hw, Ny110.out]; exact HP15.1); clear HP15; have n_ := zA2 hp_ (by rw [hw]; exact below_set (HB.out) GB14.out : Below w.heap.size w w16); clear HO_3 HB; obtain ⟨HO_3, HB⟩ := n_; clear hg hw hp_))); (try simp only [← hl3_3]); go_roundg k3; (case measure => have := HK1.out; have := HK2.out; have := HK3.out; omega); case rel => exact ⟨(y110), (wrap64 (x24_3 + 1)), zz2, H', ⟨by have := HK1.out; have := HK2.out; have := HK3.out; omega⟩, ⟨by (try simp only [hl3_3]); (with_reducible repeat (first | apply Kd.R_alloc | apply Kd.R_drewN | apply Kd.R_drew)); exact HO_3.out⟩, ⟨zz0⟩⟩
end Go.Proofs.Ytkcbinohpdhbgaa.P
end

section
namespace Go.Proofs.Ytkcbinohpdhbgaa.P
open Go.RowKit Go.Proofs.YtkcbinohpdhbgaaW.PrintWords Go.Proofs.YtkcbinohpdhbgaaW.PrintLast Go.Proofs.YtkcbinohpdhbgaaW.PrintMore
attribute [local go_sem] max2_int min2_int max_two min_two max_three min_three max_four min_four
set_option linter.unusedVariables false
set_option linter.unusedSimpArgs false
def laws_eqIntSS.l0 : Nat → List (List Int) → List (List Int) → Int → Option (Bool)
 | 0, _, _, _ => none
 | k + 1, x0, x1, x5 => if x5 < (x0.length : Int) then (if 0 ≤ x5 then (if x5 < (x1.length : Int) then ((laws_eqIntS.f k (rd_L3 x0 x5) (rd_L3 x1 x5)).bind fun t103 => (if t103 = true then (laws_eqIntSS.l0 k x0 x1 (wrap64 (x5 + 1))) else (some false))) else (none)) else (none)) else (some true)
def laws_eqIntSS.f (k : Nat) (l0 : List (List Int)) (l1 : List (List Int)) : Option (Bool) := if (l0.length : Int) = (l1.length : Int) then (laws_eqIntSS.l0 k l0 l1 0) else (some false)
theorem laws_eqIntSS.mono_l : ∀ k, (∀ y0 y1 y2, LeO (laws_eqIntSS.l0 k y0 y1 y2) (laws_eqIntSS.l0 (k + 1) y0 y1 y2))
 | 0 => fun _ _ _ r h => by simp [laws_eqIntSS.l0] at h
 | k + 1 => by
  have ih0 := laws_eqIntSS.mono_l k
  ·intro y0 y1 y2
   unfold laws_eqIntSS.l0
   exact zm4
theorem laws_eqIntSS.mono : ∀ a0 a1 k, LeO (laws_eqIntSS.f k a0 a1) (laws_eqIntSS.f (k + 1) a0 a1) := by
 intro a0 a1 k; have ih0 := laws_eqIntSS.mono_l k; unfold laws_eqIntSS.f; exact zm4
set_option maxHeartbeats 8000000 in
set_option maxRecDepth 100000 in
theorem laws_eqIntSS.calls (k : Nat) (A0 : Option Addr) (c0 : Nat) (l0 : List (List Int)) (A1 : Option Addr) (c1 : Nat) (l1 : List (List Int)) (r : Bool) (w : World) (hr0 : Kd.C (Kd.slice 3 (Kd.int .i64)) w A0 l0.length l0) (hc0 : l0.length ≤ c0) (hr1 : Kd.C (Kd.slice 3 (Kd.int .i64)) w A1 l1.length l1) (hc1 : l1.length ≤ c1) (h : laws_eqIntSS.f k l0 l1 = some r) :
  Calls Try.prog 32 #[.slice A0 l0.length c0, .slice A1 l1.length c1] w fun e w' => e = .returned (.bool r) ∧ Drawn0 w w' := by
 have HR0 := Aside0.mk hr0; have HC0 := Aside0.mk hc0; clear hr0 hc0; have HR1 := Aside0.mk hr1; have HC1 := Aside0.mk hc1; clear hr1 hc1; have H : (if (l0.length : Int) = (l1.length : Int) then (laws_eqIntSS.l0 k l0 l1 0) else (some false)) = some r := h; clear h; by_cases c3 : (l0.length : Int) = (l1.length : Int); rotate_left
 ·rw [if_neg c3] at H; have c3b0 : ((l0.length : Int) == (l1.length : Int)) = false := beq_eq_false_iff_ne.mpr c3; have c3b1 : ((l0.length : Int) != (l1.length : Int)) = true := bne_iff_ne.mpr c3; (have c3b2 : (l0.length == l1.length) = false := by first | simpa using c3 | (simp at c3 ⊢; omega)); obtain rfl := Option.some.inj H; go_enter Try.func32, Try.ntmps32; go_wp2; (repeat (go_quiet (fail); try go_wp2)); go_ret; exact ⟨zz2, by repeat (first | exact Drawn0.refl _ | apply Drawn0.step)⟩
 rw [if_pos c3] at H; have c3b0 : ((l0.length : Int) == (l1.length : Int)) = true := beq_iff_eq.mpr c3; have c3b1 : ((l0.length : Int) != (l1.length : Int)) = false := bne_eq_false_iff_eq.mpr c3; (have c3b2 : (l0.length == l1.length) = true := by first | simpa using c3 | (simp at c3 ⊢; omega)); clear c3; have H' := Aside0.mk H; clear H; go_enter Try.func32, Try.ntmps32; go_wp2; (repeat (go_quiet (fail); try go_wp2)); (go_loopg [5] k (fun kq v5 w' => ∃ (x5_1 : Int), v5 = .int .i64 x5_1 ∧ Aside0 (laws_eqIntSS.l0 kq l0 l1 x5_1 = some r) ∧ Aside0 (kq ≤ k) ∧ Drawn0 w w')); case atStart => exact ⟨(0), zz2, H', ⟨Nat.le_refl _⟩, by repeat (first | exact Drawn0.refl _ | apply Drawn0.step)⟩
 case round =>
  clear H'; (try clear c1); (try clear p2); (try clear c3); (try clear c3b0); (try clear c3b1); (try clear c3b2); obtain ⟨x5_1, rfl, HA, HK1, ⟨m1, rfl⟩⟩ := hrel
  cases gk with
  | zero => exact absurd HA.out (by simp [laws_eqIntSS.l0])
  | succ k1 =>
   have H := HA.out; clear HA; simp only [laws_eqIntSS.l0] at H; by_cases c4 : x5_1 < (l0.length : Int); rotate_left
   ·rw [if_neg c4] at H; have c4b0 := decide_eq_false c4; (try (have c4b8101_0 := c4b0; first | rw [hl101_0] at c4b8101_0 | rw [← hl101_0] at c4b8101_0)); (try (have c4b8102_0 := c4b0; first | rw [hl102_0] at c4b8102_0 | rw [← hl102_0] at c4b8102_0)); clear c4; obtain rfl := Option.some.inj H; go_wp2; (repeat (go_quiet (fail); try go_wp2)); go_ret; exact ⟨zz2, by repeat (first | exact Drawn0.refl _ | apply Drawn0.step)⟩
   rw [if_pos c4] at H; have c4b0 := decide_eq_true c4; clear c4; by_cases c5 : 0 ≤ x5_1; rotate_left
   ·rw [if_neg c5] at H; exact absurd H (by simp)
   rw [if_pos c5] at H; have c5b0 := decide_eq_true c5; clear c5; by_cases c6 : x5_1 < (l1.length : Int); rotate_left
   ·rw [if_neg c6] at H; exact absurd H (by simp)
   rw [if_pos c6] at H; have c6b0 := decide_eq_true c6; clear c6; replace H := Option.bind_eq_some_iff.mp H; obtain ⟨t103, A70, H⟩ := H; (try dsimp only at H); have A7 := Aside0.mk A70; clear A70; by_cases c8 : t103 = true; rotate_left
   ·replace c8 := Bool.eq_false_iff.mpr c8; subst c8; rw [if_neg (show ¬ (false = true) by decide)] at H; obtain rfl := Option.some.inj H; have p101 : 0 ≤ (x5_1 : Int) := of_decide_eq_true zz1; have q101 : x5_1 < (l0.length : Int) := of_decide_eq_true zz1; obtain ⟨ad101, A101_0, c101_0, e101, hx101_0, hl101_0, hi101_0⟩ := at_L3 HR0.out x5_1 p101 q101; cases e101; have HR101_0 := Aside0.mk hi101_0; have HC101_0 := Aside0.mk hl101_0; clear hi101_0 hl101_0; replace p101 := eq_true p101; replace q101 := eq_true q101; have p102 : 0 ≤ (x5_1 : Int) := of_decide_eq_true zz1; have q102 : x5_1 < (l1.length : Int) := of_decide_eq_true zz1; obtain ⟨ad102, A102_0, c102_0, e102, hx102_0, hl102_0, hi102_0⟩ := at_L3 HR1.out x5_1 p102 q102; cases e102; have HR102_0 := Aside0.mk hi102_0; have HC102_0 := Aside0.mk hl102_0; clear hi102_0 hl102_0; replace p102 := eq_true p102; replace q102 := eq_true q102; (go_wp2_with (first | (go_at_call 11; (with_reducible refine (laws_eqIntS.calls k1 _ _ (rd_L3 l0 x5_1) _ _ (rd_L3 l1 x5_1) false _ ?side1 ?side2 ?side3 ?side4 A7.out).mono ?_); (case side1 => exact zz4); (case side2 => exact HC101_0.out); (case side3 => exact zz5); (case side4 => exact HC102_0.out); rintro e w' ⟨rfl, ⟨nd, rfl⟩⟩; (try first | exact ⟨rfl, _, World.drewN_drewN _ _ _⟩ | exact ⟨rfl, _, Eq.trans (World.drewN_drewN _ _ _) (congrArg (World.drewN _) (Nat.add_assoc _ _ _))⟩)))); (repeat (go_quiet (first | (go_at_call 11; (with_reducible refine (laws_eqIntS.calls k1 _ _ (rd_L3 l0 x5_1) _ _ (rd_L3 l1 x5_1) false _ ?side1 ?side2 ?side3 ?side4 A7.out).mono ?_); (case side1 => exact zz4); (case side2 => exact HC101_0.out); (case side3 => exact zz5); (case side4 => exact HC102_0.out); rintro e w' ⟨rfl, ⟨nd, rfl⟩⟩; (try first | exact ⟨rfl, _, World.drewN_drewN _ _ _⟩ | exact ⟨rfl, _, Eq.trans (World.drewN_drewN _ _ _) (congrArg (World.drewN _) (Nat.add_assoc _ _ _))⟩))); try go_wp2_with (first | (go_at_call 11; (with_reducible refine (laws_eqIntS.calls k1 _ _ (rd_L3 l0 x5_1) _ _ (rd_L3 l1 x5_1) false _ ?side1 ?side2 ?side3 ?side4 A7.out).mono ?_); (case side1 => exact zz4); (case side2 => exact HC101_0.out); (case side3 => exact zz5); (case side4 => exact HC102_0.out); rintro e w' ⟨rfl, ⟨nd, rfl⟩⟩; (try first | exact ⟨rfl, _, World.drewN_drewN _ _ _⟩ | exact ⟨rfl, _, Eq.trans (World.drewN_drewN _ _ _) (congrArg (World.drewN _) (Nat.add_assoc _ _ _))⟩))))); go_ret; exact ⟨zz2, by repeat (first | exact Drawn0.refl _ | apply Drawn0.step)⟩
   subst c8; rw [if_pos rfl] at H; have H' := Aside0.mk H; clear H; have p101 : 0 ≤ (x5_1 : Int) := of_decide_eq_true zz1; have q101 : x5_1 < (l0.length : Int) := of_decide_eq_true zz1; obtain ⟨ad101, A101_0, c101_0, e101, hx101_0, hl101_0, hi101_0⟩ := at_L3 HR0.out x5_1 p101 q101; cases e101; have HR101_0 := Aside0.mk hi101_0; have HC101_0 := Aside0.mk hl101_0; clear hi101_0 hl101_0; replace p101 := eq_true p101; replace q101 := eq_true q101; have p102 : 0 ≤ (x5_1 : Int) := of_decide_eq_true zz1; have q102 : x5_1 < (l1.length : Int) := of_decide_eq_true zz1; obtain ⟨ad102, A102_0, c102_0, e102, hx102_0, hl102_0, hi102_0⟩ := at_L3 HR1.out x5_1 p102 q102; cases e102; have HR102_0 := Aside0.mk hi102_0; have HC102_0 := Aside0.mk hl102_0; clear hi102_0 hl102_0; replace p102 := eq_true p102; replace q102 := eq_true q102; (go_wp2_with (first | (go_at_call 11; (with_reducible refine (laws_eqIntS.calls k1 _ _ (rd_L3 l0 x5_1) _ _ (rd_L3 l1 x5_1) true _ ?side1 ?side2 ?side3 ?side4 A7.out).mono ?_); (case side1 => exact zz4); (case side2 => exact HC101_0.out); (case side3 => exact zz5); (case side4 => exact HC102_0.out); rintro e w' ⟨rfl, ⟨nd, rfl⟩⟩; (try first | exact ⟨rfl, _, World.drewN_drewN _ _ _⟩ | exact ⟨rfl, _, Eq.trans (World.drewN_drewN _ _ _) (congrArg (World.drewN _) (Nat.add_assoc _ _ _))⟩)))); (repeat (go_quiet (first | (go_at_call 11; (with_reducible refine (laws_eqIntS.calls k1 _ _ (rd_L3 l0 x5_1) _ _ (rd_L3 l1 x5_1) true _ ?side1 ?side2 ?side3 ?side4 A7.out).mono ?_); (case side1 => exact zz4); (case side2 => exact HC101_0.out); (case side3 => exact zz5); (case side4 => exact HC102_0.out); rintro e w' ⟨rfl, ⟨nd, rfl⟩⟩; (try first | exact ⟨rfl, _, World.drewN_drewN _ _ _⟩ | exact ⟨rfl, _, Eq.trans (World.drewN_drewN _ _ _) (congrArg (World.drewN _) (Nat.add_assoc _ _ _))⟩))); try go_wp2_with (first | (go_at_call 11; (with_reducible refine (laws_eqIntS.calls k1 _ _ (rd_L3 l0 x5_1) _ _ (rd_L3 l1 x5_1) true _ ?side1 ?side2 ?side3 ?side4 A7.out).mono ?_); (case side1 => exact zz4); (case side2 => exact HC101_0.out); (case side3 => exact zz5); (case side4 => exact HC102_0.out); rintro e w' ⟨rfl, ⟨nd, rfl⟩⟩; (try first | exact ⟨rfl, _, World.drewN_drewN _ _ _⟩ | exact ⟨rfl, _, Eq.trans (World.drewN_drewN _ _ _) (congrArg (World.drewN _) (Nat.add_assoc _ _ _))⟩))))); go_roundg k1; (case measure => have := HK1.out; omega); case rel => exact ⟨(wrap64 (x5_1 + 1)), zz2, H', ⟨by have := HK1.out; omega⟩, by repeat (first | exact Drawn0.refl _ | apply Drawn0.step)⟩
def laws_markIntSS.go (k : Nat) : List (List Int) → Int → Option Int
 | [], a => some a
 | x :: xs, a => (laws_markIntS.f k x a).bind fun t => laws_markIntSS.go k xs t.1
def laws_markIntSS.f (k : Nat) (l0 : List (List Int)) (a1 : Int) : Option Int := if l0.length ≤ 1048576 then laws_markIntSS.go k l0 a1 else none
theorem laws_markIntSS.mono_go (k : Nat) : ∀ l a, LeO (laws_markIntSS.go k l a) (laws_markIntSS.go (k + 1) l a)
 | [], a => LeO.refl _
 | x :: xs, a => LeO.bind (laws_markIntS.mono _ _ k) fun t => laws_markIntSS.mono_go k xs t.1
theorem laws_markIntSS.mono : ∀ a0 a1 k, LeO (laws_markIntSS.f k a0 a1) (laws_markIntSS.f (k + 1) a0 a1) := by
 intro a0 a1 k; unfold laws_markIntSS.f; exact LeO.ite (laws_markIntSS.mono_go k _ _) (LeO.refl _)
set_option maxHeartbeats 8000000 in
set_option maxRecDepth 1000000 in
theorem laws_markIntSS.calls (k : Nat) (P0_ : Nat → Prop) (u9_ : Value) (l0 : List (List Int)) (a1 : Int) (r : Int) (w0 w : World) (hB : Below w0.heap.size w0 w) (ho0 : Kd.S (Kd.slice 3 (Kd.int .i64)) 26 w w0.heap.size P0_ u9_ l0) (h : laws_markIntSS.f k l0 a1 = some r) :
  Calls Try.prog 33 #[u9_, .int .i64 a1] w fun e w' => e = .returned (.int .i64 r) ∧ Below w0.heap.size w0 w' ∧ Kept w w' (fun k_ => P0_ k_) := by
 unfold laws_markIntSS.f at h; (split at h); (case isFalse => cases h); rename_i hlen; have HLEN := Aside0.mk hlen; clear hlen; obtain ⟨A0, c0, e0⟩ := Kd.S_slice ho0; subst e0; have HS0 := Aside0.mk (Kd.S_mono ho0 (ok' := fun k_ => (P0_ k_ ∨ w.heap.size ≤ k_)) fun _ hk => .inl hk); have HK0 := Aside0.mk (Kept.refl w (fun k_ => P0_ k_)); have HW0 := Aside0.mk hB.size; have HB := Aside0.mk hB; have H0 := Aside0.mk h; clear hB ho0 h; go_enter Try.func33, Try.ntmps33; go_wp2; (go_loopw [1, 5] (fun v1 v5 wr => ∃ (i : Nat) (a : Int) (L : List (List Int)), v1 = .int .i64 a ∧ v5 = .int .i64 (i : Int) ∧ Aside0 (laws_markIntSS.go k (l0.drop i) a = some r) ∧ Aside0 (i ≤ l0.length ∧ L.length = l0.length ∧ L.drop i = l0.drop i) ∧ Aside0 (Kd.S (Kd.slice 3 (Kd.int .i64)) 26 wr w0.heap.size (fun k_ => (P0_ k_ ∨ w.heap.size ≤ k_)) (.slice A0 l0.length c0) L) ∧ Aside0 (Kept w wr (fun k_ => P0_ k_)) ∧ Aside0 (Below w0.heap.size w0 wr)) (fun _ v _ => l0.length - (intOf v).toNat)); case atStart => exact ⟨0, a1, l0, rfl, rfl, H0, ⟨Nat.zero_le _, rfl, rfl⟩, HS0, HK0, HB⟩
 case round =>
  clear HB; obtain ⟨i, a, L, rfl, rfl, HG, HI, HS, HK, HB⟩ := hrel; by_cases hlt : i < l0.length; rotate_left
  ·have d0 : decide ((i : Int) < (l0.length : Int)) = false := decide_eq_false (by omega); have d1 : decide (i < l0.length) = false := decide_eq_false hlt; (have hi : i = l0.length := by have := HI.out.1; omega); subst hi; have hg := HG.out; rw [List.drop_length] at hg; obtain rfl := Option.some.inj hg; go_wp2; go_ret; exact ⟨rfl, HB.out, HK.out⟩
  have d0 : decide ((i : Int) < (l0.length : Int)) = true := decide_eq_true (by omega); have d1 : decide (i < l0.length) = true := decide_eq_true hlt; (have p1 : (0 : Int) ≤ (i : Int) := by omega); (have p2 : (i : Int) < (L.length : Int) := by have := HI.out.2.1; omega); (have p3 : (i : Int) < (l0.length : Int) := by omega); (have hib : (i : Int) ≤ 1048576 := by have := HLEN.out; omega); have hS := HS.out; rw [← HI.out.2.1] at hS; obtain ⟨g, cap, eg, _⟩ := Kd.S_form hS (by omega); injection eg with eA _ eC; subst eA; subst eC; obtain ⟨oki, c, _, hM, hcell, _, hoki, hH⟩ := Kd.S_elem hS ([] : List Int) (i : Int) p1 p2; obtain ⟨vx, hvx, hRx⟩ := hM; subst hvx; replace hcell := hcell 0 vx rfl; obtain ⟨x, hx⟩ : ∃ x, L.getD ((i : Int)).toNat [] = x := ⟨_, rfl⟩; rw [hx] at hRx
  have hd : l0.drop i = x :: l0.drop (i + 1) := by
   have e2 := HI.out.2.1; have e3 := HI.out.2.2; clear HI HG HS hS; have h2 := congrArg (List.drop 1) e3; rw [List.drop_drop, List.drop_drop] at h2; rw [← e3, ← h2, ← hx, Int.toNat_natCast, List.getD_eq_getElem?_getD, List.getElem?_eq_getElem (by omega)]; exact List.drop_eq_getElem_cons (by omega)
  have hg := HG.out; rw [hd] at hg; obtain ⟨t, ht, hg2⟩ := Option.bind_eq_some_iff.mp hg; obtain ⟨t1, t2⟩ := t; have HT := Aside0.mk ht; have HG2 := Aside0.mk hg2; obtain ⟨Ai, ci, ei⟩ := Kd.R_slice hRx; subst ei; rw [Int.toNat_natCast, show i * (Kd.slice 3 (Kd.int .i64)).sz + 0 = i from Nat.mul_one i] at hcell; have HRx := Aside0.mk hRx; have HH := Aside0.mk hH; have HOK := Aside0.mk hoki; have HLT := Aside0.mk hlt; have HX := Aside0.mk hx; clear hS hRx hH hoki hd hg hg2 ht hlt hx; (go_wp2_with fail); refine (laws_markIntS.calls k oki _ x a t1 t2 w0 wr HB.out HRx.out HT.out).mono ?_; rintro e w1 ⟨rfl, hR1, hB1, hK1⟩; (have hH1 := Kd.H_step (Kd.H_widen HH.out) (w1 := w1) fun k_ _ hn hlt => hK1.2 k_ hlt fun h => hn (.inl h)); have hS1 := Kd.H_back hH1 (x' := t2) ⟨_, rfl, hR1⟩ (fun k_ hk => hk.imp_right fun h => ⟨.inr (Nat.le_trans HK.out.1 h), h⟩); have HS1 := Aside0.mk hS1; have HB1 := Aside0.mk hB1; have HK1 := Aside0.mk (HK.out.then_ hK1 fun k_ hk => (HOK.out k_ hk).1); clear hR1 hB1 hK1 hH1 hS1; go_wp2; go_roundw
  case rel =>
   refine ⟨i + 1, t1, L.set i t2, rfl, by go_num, HG2, ⟨by have := HLT.out; omega, by rw [List.length_set]; exact HI.out.2.1, ?_⟩, ⟨?_⟩, HK1, HB1⟩
   ·rw [List.drop_set_of_lt (by omega)]; have h2 := congrArg (List.drop 1) HI.out.2.2; rw [List.drop_drop, List.drop_drop] at h2; exact h2
   ·have h3 := HS1.out; rw [Int.toNat_natCast, HI.out.2.1] at h3; exact h3
  case measure =>
   have := HLT.out; (simp [intOf]); omega
/-- Behind the first five calls: x0, g0, w0. -/
def laws_FnExactRowOfOne.tail (k : Nat) (l0 x0 : List (List Int)) (w0 g0 : List Int) : Option Bool :=
 (laws_eqIntS.f k g0 w0).bind fun e1 => if e1 = true then (laws_toIntSS.f k l0).bind fun a2 => (laws_eqIntSS.f k x0 a2).bind fun e2 => if e2 = true then (laws_markIntSS.f k x0 1).bind fun km => if km < 0 then none else (laws_eqIntS.f k g0 w0).bind fun e3 => if e3 = true then (laws_markIntS.f k g0 1).bind fun m => (laws_heldIntS.f k m.2 1).bind fun q => if q < 0 then none else if q = m.1 then (laws_toIntSS.f k l0).bind fun a3 => (impl_RowOfOne.f k a3).bind fun h0 => (laws_eqIntS.f k h0 w0).bind fun e4 => if e4 = true then (laws_heldIntS.f k m.2 1).bind fun q2 => if q2 < 0 then none else if q2 = m.1 then some true else none else none else none else none else none else none
def laws_FnExactRowOfOne.f (k : Nat) (l0 : List (List Int)) : Option Bool :=
 (laws_szIntSS.f k l0 1048576).bind fun t => if t < 0 then some true else (laws_toIntSS.f k l0).bind fun a => (spec_RowOfOne.f k a).bind fun w0 => (laws_toIntSS.f k l0).bind fun x0 => (impl_RowOfOne.f k x0).bind fun g0 => laws_FnExactRowOfOne.tail k l0 x0 w0 g0
theorem laws_FnExactRowOfOne.mono : ∀ a0 k, LeO (laws_FnExactRowOfOne.f k a0) (laws_FnExactRowOfOne.f (k + 1) a0) := by
 intro a0 k; unfold laws_FnExactRowOfOne.f laws_FnExactRowOfOne.tail; refine LeO.bind (laws_szIntSS.mono _ _ _) fun t => LeO.ite (LeO.refl _) (LeO.bind (laws_toIntSS.mono _ _) fun a => LeO.bind (spec_RowOfOne.mono _ _) fun w0 => LeO.bind (laws_toIntSS.mono _ _) fun x0 => LeO.bind (impl_RowOfOne.mono _ _) fun g0 => LeO.bind (laws_eqIntS.mono _ _ _) fun e1 => LeO.ite (LeO.bind (laws_toIntSS.mono _ _) fun a2 => LeO.bind (laws_eqIntSS.mono _ _ _) fun e2 => LeO.ite (LeO.bind (laws_markIntSS.mono _ _ _) fun km => LeO.ite (LeO.refl _) (LeO.bind (laws_eqIntS.mono _ _ _) fun e3 => LeO.ite (LeO.bind (laws_markIntS.mono _ _ _) fun m => LeO.bind (laws_heldIntS.mono _ _ _) fun q => LeO.ite (LeO.refl _) (LeO.ite (LeO.bind (laws_toIntSS.mono _ _) fun a3 => LeO.bind (impl_RowOfOne.mono _ _) fun h0 => LeO.bind (laws_eqIntS.mono _ _ _) fun e4 => LeO.ite (LeO.bind (laws_heldIntS.mono _ _ _) fun q2 => LeO.ite (LeO.refl _) (LeO.ite (LeO.refl _) (LeO.refl _))) (LeO.refl _)) (LeO.refl _))) (LeO.refl _))) (LeO.refl _)) (LeO.refl _))
set_option maxHeartbeats 8000000 in
set_option maxRecDepth 1000000 in
theorem laws_FnExactRowOfOne.calls (k : Nat) (A0 : Option Addr) (c0 : Nat) (l0 : List (List Int)) (r : Bool) (w : World) (hr0 : Kd.C (Kd.slice 3 (Kd.int .i64)) w A0 l0.length l0) (hc0 : l0.length ≤ c0) (h : laws_FnExactRowOfOne.f k l0 = some r) :
  Calls Try.prog 6 #[.slice A0 l0.length c0] w fun e w' => e = .returned (.bool r) ∧ Below w.heap.size w w' := by
 have HR := Aside0.mk hr0; have HC := Aside0.mk hc0; clear hr0 hc0; unfold laws_FnExactRowOfOne.f at h; replace h := Option.bind_eq_some_iff.mp h; obtain ⟨t, ht, h⟩ := h; have HT := Aside0.mk ht; clear ht; by_cases c1 : t < 0
 ·rw [if_pos c1] at h; obtain rfl := Option.some.inj h; have d1 : decide (t < 0) = true := decide_eq_true c1; go_enter Try.func6, Try.ntmps6; (go_wp2_with fail); refine (laws_szIntSS.calls k _ _ l0 1048576 t _ HR.out HC.out HT.out).mono ?_; rintro e w1 ⟨rfl, hd⟩; have HB1 := Aside0.mk (Drawn0.below hd); clear hd; go_wp2; go_ret; exact ⟨rfl, HB1.out⟩
 rw [if_neg c1] at h; have d1 : decide (t < 0) = false := decide_eq_false c1; clear c1; replace h := Option.bind_eq_some_iff.mp h; obtain ⟨a, ha, h⟩ := h; replace h := Option.bind_eq_some_iff.mp h; obtain ⟨wz, hwz, h⟩ := h; replace h := Option.bind_eq_some_iff.mp h; obtain ⟨x0, hx0, h⟩ := h; replace h := Option.bind_eq_some_iff.mp h; obtain ⟨g0, hg0, h⟩ := h; unfold laws_FnExactRowOfOne.tail at h; replace h := Option.bind_eq_some_iff.mp h; obtain ⟨e1, he1, h⟩ := h; (split at h); (case isFalse => cases h); rename_i t1; subst t1; replace h := Option.bind_eq_some_iff.mp h; obtain ⟨a2, ha2, h⟩ := h; replace h := Option.bind_eq_some_iff.mp h; obtain ⟨e2, he2, h⟩ := h; (split at h); (case isFalse => cases h); rename_i t1; subst t1; replace h := Option.bind_eq_some_iff.mp h; obtain ⟨km, hkm, h⟩ := h; (split at h); (case isTrue => cases h); rename_i n1; replace h := Option.bind_eq_some_iff.mp h; obtain ⟨e3, he3, h⟩ := h; (split at h); (case isFalse => cases h); rename_i t1; subst t1; replace h := Option.bind_eq_some_iff.mp h; obtain ⟨⟨m1, m2⟩, hm, h⟩ := h; replace h := Option.bind_eq_some_iff.mp h; obtain ⟨q, hq, h⟩ := h; (split at h); (case isTrue => cases h); rename_i n2; (split at h); (case isFalse => cases h); rename_i t2; replace h := Option.bind_eq_some_iff.mp h; obtain ⟨a3, ha3, h⟩ := h; replace h := Option.bind_eq_some_iff.mp h; obtain ⟨h0, hh0, h⟩ := h; replace h := Option.bind_eq_some_iff.mp h; obtain ⟨e4, he4, h⟩ := h; (split at h); (case isFalse => cases h); rename_i t1; subst t1; replace h := Option.bind_eq_some_iff.mp h; obtain ⟨q2, hq2, h⟩ := h; (split at h); (case isTrue => cases h); rename_i n3; (split at h); (case isFalse => cases h); rename_i t3; obtain rfl := Option.some.inj h; clear h; simp only at t2 t3 hq hq2; have Hq2 := Aside0.mk hq2; have Ha := Aside0.mk ha; have Hwz := Aside0.mk hwz; have Hx0 := Aside0.mk hx0; have Hg0 := Aside0.mk hg0; have He1 := Aside0.mk he1; have Ha2 := Aside0.mk ha2; have He2 := Aside0.mk he2; have Hkm := Aside0.mk hkm; have He3 := Aside0.mk he3; have Hm := Aside0.mk hm; have Hq := Aside0.mk hq; have Ha3 := Aside0.mk ha3; have Hh0 := Aside0.mk hh0; have He4 := Aside0.mk he4; clear ha hwz hx0 hg0 he1 ha2 he2 hkm he3 hm hq ha3 hh0 he4 hq2; have d2 : decide (km < 0) = false := decide_eq_false n1; have d3 : decide (q < 0) = false := decide_eq_false n2; have d4 : (q != m1) = false := bne_eq_false_iff_eq.mpr t2; have d5 : decide (q2 < 0) = false := decide_eq_false n3; have d6 : (q2 != m1) = false := bne_eq_false_iff_eq.mpr t3; clear n1 n2 n3 t2 t3; go_enter Try.func6, Try.ntmps6; (go_wp2_with fail); refine (laws_szIntSS.calls k _ _ l0 1048576 t _ HR.out HC.out HT.out).mono ?_; rintro e w1 ⟨rfl, hd⟩; have HB1 := Aside0.mk (Drawn0.below hd); clear hd; (go_wp2_with fail); refine (laws_toIntSS.calls k _ _ l0 a _ (Kd.C_below HR.out HB1.out) HC.out Ha.out).mono ?_; rintro e w2 ⟨v2, rfl, hS, hb⟩; obtain ⟨Aa, ca, ea⟩ := Kd.S_slice hS; subst ea; have HSa := Aside0.mk (Kd.S_reads' hS); have HB2 := Aside0.mk (below_step HB1.out hb); clear hS hb; (go_wp2_with fail); refine (spec_RowOfOne.calls k _ _ a wz _ HSa.out.2.2 HSa.out.2.1 Hwz.out).mono ?_; rintro e w3 ⟨v3, rfl, hR, hb⟩; obtain ⟨Aw, cw, ew⟩ := Kd.R_slice hR; subst ew; have HW := Aside0.mk (Kd.R_mono (Kd.R_bound hR) (ok' := fun k_ => w2.heap.size ≤ k_ ∧ k_ < w3.heap.size) fun k_ hk => ⟨hk.2.1, hk.2.2.1⟩); have HB3 := Aside0.mk (below_step HB2.out hb); clear hR hb HSa; (go_wp2_with fail); refine (laws_toIntSS.calls k _ _ l0 x0 _ (Kd.C_below HR.out HB3.out) HC.out Hx0.out).mono ?_; rintro e w4 ⟨v4, rfl, hS, hb⟩; obtain ⟨Ax, cx, ex⟩ := Kd.S_slice hS; subst ex; have HX := Aside0.mk (Kd.S_mono (Kd.S_bound hS) (ok' := fun k_ => w3.heap.size ≤ k_ ∧ k_ < w4.heap.size) fun k_ hk => ⟨hk.2.1, hk.2.2.1⟩); have HW4 := Aside0.mk (Kd.R_below HW.out hb); have HB4 := Aside0.mk (below_step HB3.out hb); have HZ34 := Aside0.mk hb.size; clear hS hb HW; (go_wp2_with fail); refine (impl_RowOfOne.calls k _ _ x0 g0 _ (Kd.S_reads' HX.out).2.2 (Kd.S_reads' HX.out).2.1 Hg0.out).mono ?_; rintro e w5 ⟨v5, rfl, hR, hb⟩; obtain ⟨Ag, cg, eg⟩ := Kd.R_slice hR; subst eg; have HG := Aside0.mk (Kd.R_mono (Kd.R_bound hR) (ok' := fun k_ => w4.heap.size ≤ k_ ∧ k_ < w5.heap.size) fun k_ hk => ⟨hk.2.1, hk.2.2.1⟩); have HW5 := Aside0.mk (Kd.R_below HW4.out hb); have HX5 := Aside0.mk (Kd.S_below HX.out hb); have HB5 := Aside0.mk (below_step HB4.out hb); have HZ45 := Aside0.mk hb.size; clear hR hb HW4 HX; (go_wp2_with fail); refine (laws_eqIntS.calls k _ _ g0 _ _ wz true _ (Kd.R_reads' HG.out).2.2 (Kd.R_reads' HG.out).2.1 (Kd.R_reads' HW5.out).2.2 (Kd.R_reads' HW5.out).2.1 He1.out).mono ?_; rintro e w6 ⟨rfl, hd⟩; have hb := (Drawn0.below hd); have HG6 := Aside0.mk (Kd.R_below HG.out hb); have HW6 := Aside0.mk (Kd.R_below HW5.out hb); have HX6 := Aside0.mk (Kd.S_below HX5.out hb); have HB6 := Aside0.mk (below_step HB5.out hb); clear hd hb HG HW5 HX5; (go_wp2_with fail); refine (laws_toIntSS.calls k _ _ l0 a2 _ (Kd.C_below HR.out HB6.out) HC.out Ha2.out).mono ?_; rintro e w7 ⟨v7, rfl, hS, hb⟩; obtain ⟨A2, c2, e2⟩ := Kd.S_slice hS; subst e2; have HS2 := Aside0.mk (Kd.S_reads' hS); have HG7 := Aside0.mk (Kd.R_below HG6.out hb); have HW7 := Aside0.mk (Kd.R_below HW6.out hb); have HX7 := Aside0.mk (Kd.S_below HX6.out hb); have HB7 := Aside0.mk (below_step HB6.out hb); clear hS hb HG6 HW6 HX6; (go_wp2_with fail); refine (laws_eqIntSS.calls k _ _ x0 _ _ a2 true _ (Kd.S_reads' HX7.out).2.2 (Kd.S_reads' HX7.out).2.1 HS2.out.2.2 HS2.out.2.1 He2.out).mono ?_; rintro e w8 ⟨rfl, hd⟩; have hb := (Drawn0.below hd); have HG8 := Aside0.mk (Kd.R_below HG7.out hb); have HW8 := Aside0.mk (Kd.R_below HW7.out hb); have HX8 := Aside0.mk (Kd.S_lower (Kd.S_below HX7.out hb) (show w.heap.size ≤ w3.heap.size from HB3.out.size)); have HB8 := Aside0.mk (below_step HB7.out hb); clear hd hb HG7 HW7 HX7 HS2; (go_wp2_with fail); refine (laws_markIntSS.calls k _ _ x0 1 km w _ HB8.out HX8.out Hkm.out).mono ?_; rintro e w9 ⟨rfl, hb, hk⟩; have HG9 := Aside0.mk (Kd.R_step HG8.out fun k_ ho hlt => hk.2 k_ hlt fun h => by have := ho.1; have := h.2; omega); have HW9 := Aside0.mk (Kd.R_step HW8.out fun k_ ho hlt => hk.2 k_ hlt fun h => by have := ho.2; have := h.1; omega); have HB9 := Aside0.mk hb; clear hb hk HG8 HW8 HX8; (go_wp2_with fail); refine (laws_eqIntS.calls k _ _ g0 _ _ wz true _ (Kd.R_reads' HG9.out).2.2 (Kd.R_reads' HG9.out).2.1 (Kd.R_reads' HW9.out).2.2 (Kd.R_reads' HW9.out).2.1 He3.out).mono ?_; rintro e w10 ⟨rfl, hd⟩; have hb := (Drawn0.below hd); have HG10 := Aside0.mk (Kd.R_lower (Kd.R_below HG9.out hb) (show w.heap.size ≤ w4.heap.size from HB4.out.size)); have HW10 := Aside0.mk (Kd.R_below HW9.out hb); have HB10 := Aside0.mk (below_step HB9.out hb); clear hd hb HG9 HW9; (go_wp2_with fail); refine (laws_markIntS.calls k _ _ g0 1 m1 m2 w _ HB10.out HG10.out Hm.out).mono ?_; rintro e w11 ⟨rfl, hR, hb, hk⟩; obtain ⟨hl, _, _⟩ := Kd.R_reads' hR; rw [hl] at hR; have HG11 := Aside0.mk hR; have HW11 := Aside0.mk (Kd.R_step HW10.out fun k_ ho hlt => hk.2 k_ hlt fun h => by have := ho.2; have := h.1; have := HZ34.out; omega); have HB11 := Aside0.mk hb; have HL := Aside0.mk hl; clear hR hb hk HG10 HW10; rw [hl]; clear hl; (go_wp2_with fail); refine (laws_heldIntS.calls k _ _ m2 1 q _ (Kd.R_reads' HG11.out).2.2 (Kd.R_reads' HG11.out).2.1 Hq.out).mono ?_; rintro e w12 ⟨rfl, hd⟩; have hb := (Drawn0.below hd); have HG12 := Aside0.mk (Kd.R_below HG11.out hb); have HW12 := Aside0.mk (Kd.R_below HW11.out hb); have HB12 := Aside0.mk (below_step HB11.out hb); clear hd hb HG11 HW11; (go_wp2_with fail); refine (laws_toIntSS.calls k _ _ l0 a3 _ (Kd.C_below HR.out HB12.out) HC.out Ha3.out).mono ?_; rintro e w13 ⟨v13, rfl, hS, hb⟩; obtain ⟨A3, c3, e3⟩ := Kd.S_slice hS; subst e3; have HS3 := Aside0.mk (Kd.S_reads' hS); have HG13 := Aside0.mk (Kd.R_below HG12.out hb); have HW13 := Aside0.mk (Kd.R_below HW12.out hb); have HB13 := Aside0.mk (below_step HB12.out hb); clear hS hb HG12 HW12; (go_wp2_with fail); refine (impl_RowOfOne.calls k _ _ a3 h0 _ HS3.out.2.2 HS3.out.2.1 Hh0.out).mono ?_; rintro e w14 ⟨v14, rfl, hR, hb⟩; obtain ⟨Ah, ch, eh⟩ := Kd.R_slice hR; subst eh; have HH := Aside0.mk (Kd.R_reads' hR); have HG14 := Aside0.mk (Kd.R_below HG13.out hb); have HW14 := Aside0.mk (Kd.R_below HW13.out hb); have HB14 := Aside0.mk (below_step HB13.out hb); clear hR hb HG13 HW13 HS3; (go_wp2_with fail); refine (laws_eqIntS.calls k _ _ h0 _ _ wz true _ HH.out.2.2 HH.out.2.1 (Kd.R_reads' HW14.out).2.2 (Kd.R_reads' HW14.out).2.1 He4.out).mono ?_; rintro e w15 ⟨rfl, hd⟩; have hb := (Drawn0.below hd); have HG15 := Aside0.mk (Kd.R_below HG14.out hb); have HB15 := Aside0.mk (below_step HB14.out hb); clear hd hb HG14 HW14 HH; (go_wp2_with fail); refine (laws_heldIntS.calls k _ _ m2 1 q2 _ (Kd.R_reads' HG15.out).2.2 (Kd.R_reads' HG15.out).2.1 Hq2.out).mono ?_; rintro e w16 ⟨rfl, hd⟩; have HB16 := Aside0.mk (below_step HB15.out (Drawn0.below hd)); clear hd; go_wp2; go_ret; exact ⟨rfl, HB16.out⟩
end Go.Proofs.Ytkcbinohpdhbgaa.P
end

section
namespace Go.Proofs.Ytkcbinohpdhbgaa.Cf
set_option linter.unusedVariables false
set_option linter.unusedSimpArgs false
open Go.RowKit Go.Proofs.YtkcbinohpdhbgaaW.PrintWords
/-- With enough rounds the answer is there, and it has the property. -/
def Ep {α : Type} (g : Nat → Option α) (Q : α → Prop) : Prop := ∃ r, Q r ∧ ∃ K, ∀ k, K ≤ k → g k = some r
theorem Ep.now {α : Type} {Q : α → Prop} {r : α} (h : Q r) : Ep (fun _ => some r) Q := ⟨r, h, 0, fun _ _ => rfl⟩
theorem Ep.mono {α : Type} {g : Nat → Option α} {P Q : α → Prop} (h : Ep g P) (hpq : ∀ r, P r → Q r) : Ep g Q := by
  obtain ⟨r, hr, K, hK⟩ := h
  exact ⟨r, hpq r hr, K, hK⟩
theorem Ep.step {α : Type} {g f : Nat → Option α} {Q : α → Prop} (h : ∀ k, g (k + 1) = f k) (k : Ep f Q) : Ep g Q := by
  obtain ⟨r, hr, K, hK⟩ := k
  refine ⟨r, hr, K + 1, fun k hk => ?_⟩
  obtain ⟨m, rfl⟩ : ∃ m, k = m + 1 := ⟨k - 1, by omega⟩
  rw [h m]
  exact hK m (by omega)
theorem Ep.up {α : Type} {g : Nat → Option α} {Q : α → Prop} (h : Ep (fun k => g (k + 1)) Q) : Ep g Q := Ep.step (fun _ => rfl) h
theorem Ep.bind {α β : Type} {g : Nat → Option α} {f : Nat → α → Option β} {P : α → Prop} {Q : β → Prop} (h : Ep g P) (k : ∀ a, P a → Ep (fun n => f n a) Q) : Ep (fun n => (g n).bind (f n)) Q := by
  obtain ⟨r, hr, K, hK⟩ := h
  obtain ⟨q, hq, L, hL⟩ := k r hr
  refine ⟨q, hq, max K L, fun k hk => ?_⟩
  show (g k).bind (f k) = some q
  rw [hK k (by omega)]
  exact hL k (by omega)
/-- A call without rounds. -/
theorem Ep.bind0 {α β : Type} {g : Option α} {f : Nat → α → Option β} {a : α} {Q : β → Prop} (h : g = some a) (k : Ep (fun n => f n a) Q) : Ep (fun n => g.bind (f n)) Q := by
  subst h
  exact k
theorem Ep.ite {α : Type} {c : Prop} [Decidable c] {f g : Nat → Option α} {Q : α → Prop} (h : c → Ep f Q) (k : ¬ c → Ep g Q) : Ep (fun n => if c then f n else g n) Q := by
  by_cases hc : c
  · simp only [hc, if_true]
    exact h hc
  · simp only [hc, if_false]
    exact k hc
theorem Ep.pos {α : Type} {c : Prop} [Decidable c] {f g : Nat → Option α} {Q : α → Prop} (hc : c) (h : Ep f Q) : Ep (fun n => if c then f n else g n) Q := Ep.ite (fun _ => h) (fun k => absurd hc k)
theorem Ep.neg {α : Type} {c : Prop} [Decidable c] {f g : Nat → Option α} {Q : α → Prop} (hc : ¬ c) (h : Ep g Q) : Ep (fun n => if c then f n else g n) Q := Ep.ite (fun k => absurd k hc) (fun _ => h)
theorem Ep.rounds {α : Type} {g : Nat → Option α} {r : α} (h : Ep g (· = r)) : ∃ k, g k = some r := by
  obtain ⟨q, rfl, K, hK⟩ := h
  exact ⟨K, hK K (Nat.le_refl _)⟩
/-- A number of a kind. -/
def Wf (k : IntKind) (x : Int) : Prop := (Lit.int k x).wf = true
theorem Wf.i64 {x : Int} (h : Wf .i64 x) : -9223372036854775808 ≤ x ∧ x ≤ 9223372036854775807 := by
  simpa [Wf, Lit.wf, IntKind.min, IntKind.max, IntKind.signed, IntKind.bits] using h
/-- A slice: its length is a number, and so on for its elements. -/
def SL {α : Type} (Q : α → Prop) (l : List α) : Prop := l.length ≤ 9223372036854775807 ∧ ∀ x ∈ l, Q x
theorem wrap_id {x : Int} (h0 : -9223372036854775808 ≤ x) (h1 : x ≤ 9223372036854775807) : wrap64 x = x := by
  unfold wrap64
  omega
theorem rd_nat (xs : List Int) (i : Nat) : rd xs (i : Int) = xs.getD i 0 := by simp [rd]
theorem rd_get {xs : List Int} {i : Nat} (h : i < xs.length) : rd xs (i : Int) = xs[i] := by simp [rd, List.getD, h]
end Go.Proofs.Ytkcbinohpdhbgaa.Cf
end

section
namespace Go.Proofs.Ytkcbinohpdhbgaa.Cf
set_option linter.unusedVariables false
set_option linter.unusedSimpArgs false
/-- Two vertices with an edge between them. -/
def Adj (es : List E) (a b : Int) : Prop := ∃ e ∈ es, (e.f0 = a ∧ e.f1 = b) ∨ (e.f0 = b ∧ e.f1 = a)
/-- b can be reached from a. -/
inductive Conn (es : List E) (a : Int) : Int → Prop
  | refl : Conn es a a
  | tail {b c : Int} : Conn es a b → Adj es b c → Conn es a c
/-- What is closed under the edges holds what is reached. -/
theorem Conn.closed {es : List E} {S : Int → Prop} (hS : ∀ a b, S a → Adj es a b → S b) {a b : Int} (h : Conn es a b) (ha : S a) : S b := by
  induction h with
  | refl => exact ha
  | tail _ hadj ih => exact hS _ _ ih hadj
end Go.Proofs.Ytkcbinohpdhbgaa.Cf
end

section
namespace Go.Proofs.Ytkcbinohpdhbgaa.Cf
set_option linter.unusedVariables false
set_option linter.unusedSimpArgs false
open Go.RowKit Go.Proofs.YtkcbinohpdhbgaaW.PrintWords Go.Proofs.Ytkcbinohpdhbgaa.P
theorem wrap_succ {i : Nat} (h : i < 4611686018427387904) : wrap64 ((i : Int) + 1) = ((i + 1 : Nat) : Int) := by
  rw [wrap_id (by omega) (by omega)]
  omega
theorem toIntS_l0 (x0 : List Int) (h : x0.length ≤ 4611686018427387904) : ∀ (d i : Nat) (x3 : List Int), i + d = x0.length → x3.length = x0.length → (∀ j, j < i → x3[j]? = x0[j]?) → Ep (fun k => laws_toIntS.l0 k x0 x3 (i : Int)) (· = x0) := by
  intro d
  induction d with
  | zero =>
    intro i x3 hi hl hx
    refine Ep.up ?_
    simp only [laws_toIntS.l0]
    refine Ep.neg (by omega) (Ep.now ?_)
    apply List.ext_getElem?
    intro j
    by_cases hj : j < i
    · exact hx j hj
    · rw [List.getElem?_eq_none (by omega), List.getElem?_eq_none (by omega)]
  | succ d ih =>
    intro i x3 hi hl hx
    refine Ep.up ?_
    simp only [laws_toIntS.l0]
    refine Ep.pos (by omega) (Ep.pos (by omega) (Ep.pos (by omega) ?_))
    rw [wrap_succ (by omega)]
    refine ih (i + 1) _ (by omega) (by simpa using hl) ?_
    intro j hj
    rw [Int.toNat_natCast, rd_get (show i < x0.length by omega)]
    by_cases e : i = j
    · subst e
      rw [List.getElem?_set_self (by omega), List.getElem?_eq_getElem (by omega)]
    · rw [List.getElem?_set_ne e]
      exact hx j (by omega)
theorem toIntS_ok (l : List Int) (h : l.length ≤ 1048576) : Ep (fun k => laws_toIntS.f k l) (· = l) := by
  simp only [laws_toIntS.f]
  refine Ep.pos (by omega) (Ep.pos (by simp; omega) ?_)
  exact toIntS_l0 l (by omega) l.length 0 _ (by omega) (by simp) (fun j hj => by omega)
theorem eqIntS_l0 (x0 x1 : List Int) (h : x0.length ≤ 1048576) (hl : x0.length = x1.length) : ∀ (d i : Nat), i + d = x0.length → (∀ j, j < i → x0[j]? = x1[j]?) → Ep (fun k => laws_eqIntS.l0 k x0 x1 (i : Int)) (· = decide (x0 = x1)) := by
  intro d
  induction d with
  | zero =>
    intro i hi hx
    refine Ep.up ?_
    simp only [laws_eqIntS.l0]
    refine Ep.neg (by omega) (Ep.now ?_)
    have : x0 = x1 := by
      apply List.ext_getElem?
      intro j
      by_cases hj : j < i
      · exact hx j hj
      · rw [List.getElem?_eq_none (by omega), List.getElem?_eq_none (by omega)]
    simp [this]
  | succ d ih =>
    intro i hi hx
    refine Ep.up ?_
    simp only [laws_eqIntS.l0]
    refine Ep.pos (by omega) (Ep.pos (by omega) (Ep.pos (by omega) ?_))
    rw [rd_get (show i < x0.length by omega), rd_get (show i < x1.length by omega), wrap_succ (by omega)]
    refine Ep.ite (fun e => ?_) (fun e => Ep.now ?_)
    · refine ih (i + 1) (by omega) ?_
      intro j hj
      by_cases ej : j = i
      · subst ej
        rw [List.getElem?_eq_getElem (by omega), List.getElem?_eq_getElem (by omega), e]
      · exact hx j (by omega)
    · have : x0 ≠ x1 := by
        rintro rfl
        exact e rfl
      simp [this]
theorem eqIntS_any (x0 x1 : List Int) (h : x0.length ≤ 1048576) : Ep (fun k => laws_eqIntS.f k x0 x1) (· = decide (x0 = x1)) := by
  simp only [laws_eqIntS.f]
  refine Ep.ite (fun e => eqIntS_l0 x0 x1 h (by omega) x0.length 0 (by omega) (fun j hj => by omega)) (fun e => Ep.now ?_)
  have : x0 ≠ x1 := by
    rintro rfl
    exact e rfl
  simp [this]
theorem eqIntS_ok (x : List Int) (h : x.length ≤ 1048576) : Ep (fun k => laws_eqIntS.f k x x) (· = true) := (eqIntS_any x x h).mono (fun r hr => by rw [hr]; simp)
/-- The marks: k, k + 1, and so on. -/
def marks (k : Int) (n : Nat) : List Int := (List.range n).map (fun i : Nat => k + i)
theorem marks_len (k : Int) (n : Nat) : (marks k n).length = n := by simp [marks]
theorem marks_get {k : Int} {n i : Nat} (h : i < n) : (marks k n)[i]? = some (k + i) := by simp [marks, h]
theorem markIntS_l0 (n : Nat) (a : Int) (hn : n ≤ 1048576) (ha : 0 ≤ a ∧ a ≤ 1099511627776) : ∀ (d i : Nat) (x0 : List Int), i + d = n → x0.length = n → (∀ j, j < i → x0[j]? = (marks a n)[j]?) → Ep (fun k => laws_markIntS.l0 k x0 (a + i) (i : Int)) (· = (a + n, marks a n)) := by
  intro d
  induction d with
  | zero =>
    intro i x0 hi hl hx
    refine Ep.up ?_
    simp only [laws_markIntS.l0]
    refine Ep.neg (by omega) (Ep.now ?_)
    have : x0 = marks a n := by
      apply List.ext_getElem?
      intro j
      by_cases hj : j < i
      · exact hx j hj
      · rw [List.getElem?_eq_none (by omega), List.getElem?_eq_none (by rw [marks_len]; omega)]
    rw [this]
    have : i = n := by omega
    rw [this]
  | succ d ih =>
    intro i x0 hi hl hx
    refine Ep.up ?_
    simp only [laws_markIntS.l0]
    refine Ep.pos (by omega) (Ep.pos (by omega) ?_)
    rw [wrap_succ (by omega), wrap_id (x := a + i + 1) (by omega) (by omega), show a + (i : Int) + 1 = a + ((i + 1 : Nat) : Int) by omega]
    refine ih (i + 1) _ (by omega) (by simpa using hl) ?_
    intro j hj
    rw [Int.toNat_natCast]
    by_cases e : i = j
    · subst e
      rw [List.getElem?_set_self (by omega), marks_get (by omega)]
    · rw [List.getElem?_set_ne e]
      exact hx j (by omega)
theorem markIntS_ok (x : List Int) (a : Int) (h : x.length ≤ 1048576) (ha : 0 ≤ a ∧ a ≤ 1099511627776) : Ep (fun k => laws_markIntS.f k x a) (· = (a + x.length, marks a x.length)) := by
  have := markIntS_l0 x.length a h ha x.length 0 x (by omega) rfl (fun j hj => by omega)
  simp only [laws_markIntS.f]
  simpa using this
theorem heldIntS_l0 (n : Nat) (a : Int) (hn : n ≤ 1048576) (ha : 0 ≤ a ∧ a ≤ 1099511627776) : ∀ (d i : Nat), i + d = n → Ep (fun k => laws_heldIntS.l0 k (marks a n) (a + i) (i : Int)) (· = a + n) := by
  intro d
  induction d with
  | zero =>
    intro i hi
    refine Ep.up ?_
    simp only [laws_heldIntS.l0]
    refine Ep.neg (by rw [marks_len]; omega) (Ep.now ?_)
    have : i = n := by omega
    rw [this]
  | succ d ih =>
    intro i hi
    refine Ep.up ?_
    simp only [laws_heldIntS.l0]
    refine Ep.pos (by rw [marks_len]; omega) (Ep.pos (by omega) (Ep.pos ?_ ?_))
    · rw [rd_nat, List.getD_eq_getElem?_getD, marks_get (by omega)]
      rfl
    · rw [wrap_succ (by omega), wrap_id (x := a + i + 1) (by omega) (by omega), show a + (i : Int) + 1 = a + ((i + 1 : Nat) : Int) by omega]
      exact ih (i + 1) (by omega)
theorem heldIntS_ok (n : Nat) (a : Int) (h : n ≤ 1048576) (ha : 0 ≤ a ∧ a ≤ 1099511627776) : Ep (fun k => laws_heldIntS.f k (marks a n) a) (· = a + n) := by
  have := heldIntS_l0 n a h ha n 0 (by omega)
  simp only [laws_heldIntS.f]
  simpa using this
theorem rdL_get {l : List (List Int)} {i : Nat} (h : i < l.length) : rd_L3 l (i : Int) = l[i] := by simp [rd_L3, List.getD, h]
theorem szIntS_ok (l : List Int) (a : Int) (ha : a ≤ 1048576) (h0 : 0 ≤ a) (hl : l.length ≤ 9223372036854775807) : ∃ t, laws_szIntS.f l a = some t ∧ t ≤ 1048576 ∧ (0 ≤ t → l.length ≤ 1048576) := by
  unfold laws_szIntS.f
  rw [wrap_id (by omega) (by omega)]
  by_cases h : a - (l.length : Int) < 0
  · exact ⟨-1, by rw [if_pos h], by omega, by omega⟩
  · exact ⟨_, by rw [if_neg h], by omega, by omega⟩
def Small (l : List (List Int)) : Prop := l.length ≤ 1048576 ∧ ∀ r ∈ l, r.length ≤ 1048576
theorem szIntSS_l0 (l : List (List Int)) (hr : ∀ r ∈ l, r.length ≤ 9223372036854775807) (hn : l.length ≤ 1048576) : ∀ (d i : Nat) (a : Int), i + d = l.length → 0 ≤ a → a ≤ 1048576 → (∀ r ∈ l.take i, r.length ≤ 1048576) →
    Ep (fun k => laws_szIntSS.l0 k l a (i : Int)) (fun t => 0 ≤ t → Small l) := by
  intro d
  induction d with
  | zero =>
    intro i a hi h0 ha hs
    refine Ep.up ?_
    simp only [laws_szIntSS.l0]
    refine Ep.neg (by omega) (Ep.now (fun _ => ⟨hn, ?_⟩))
    rw [List.take_of_length_le (by omega)] at hs
    exact hs
  | succ d ih =>
    intro i a hi h0 ha hs
    have hlt : i < l.length := by omega
    refine Ep.up ?_
    simp only [laws_szIntSS.l0]
    refine Ep.pos (by omega) (Ep.pos (by omega) ?_)
    rw [rdL_get hlt, wrap_succ (by omega)]
    obtain ⟨t, ht, h1, h2⟩ := szIntS_ok l[i] a ha h0 (hr _ (List.getElem_mem hlt))
    refine Ep.bind0 ht ?_
    refine Ep.ite (fun _ => Ep.now (fun h => by omega)) (fun hn => ?_)
    refine ih (i + 1) t (by omega) (by omega) h1 ?_
    intro r hr'
    rw [List.take_succ_eq_append_getElem hlt] at hr'
    rcases List.mem_append.1 hr' with hr' | hr'
    · exact hs r hr'
    · rw [List.mem_singleton.1 hr']
      exact h2 (by omega)
theorem szIntSS_ok (l : List (List Int)) (h : SL (SL (Wf .i64)) l) : Ep (fun k => laws_szIntSS.f k l 1048576) (fun t => 0 ≤ t → Small l) := by
  simp only [laws_szIntSS.f]
  have := h.1
  rw [wrap_id (by omega) (by omega)]
  refine Ep.ite (fun _ => Ep.now (fun h => by omega)) (fun hn => ?_)
  exact szIntSS_l0 l (fun r hr => (h.2 r hr).1) (by omega) l.length 0 _ (by omega) (by omega) (by omega) (fun r hr => by simp at hr)
theorem toIntSS_l0 (x0 : List (List Int)) (h : Small x0) : ∀ (d i : Nat) (x3 : List (List Int)), i + d = x0.length → x3.length = x0.length → (∀ j, j < i → x3[j]? = x0[j]?) → Ep (fun k => laws_toIntSS.l0 k x0 x3 (i : Int)) (· = x0) := by
  intro d
  induction d with
  | zero =>
    intro i x3 hi hl hx
    refine Ep.up ?_
    simp only [laws_toIntSS.l0]
    refine Ep.neg (by omega) (Ep.now ?_)
    apply List.ext_getElem?
    intro j
    by_cases hj : j < i
    · exact hx j hj
    · rw [List.getElem?_eq_none (by omega), List.getElem?_eq_none (by omega)]
  | succ d ih =>
    intro i x3 hi hl hx
    have hlt : i < x0.length := by omega
    have := h.1
    refine Ep.up ?_
    simp only [laws_toIntSS.l0]
    refine Ep.pos (by omega) (Ep.pos (by omega) ?_)
    rw [rdL_get hlt, wrap_succ (by omega)]
    refine Ep.bind (toIntS_ok _ (h.2 _ (List.getElem_mem hlt))) ?_
    rintro _ rfl
    refine Ep.pos (by omega) (ih (i + 1) _ (by omega) (by simpa using hl) ?_)
    intro j hj
    rw [Int.toNat_natCast]
    by_cases e : i = j
    · subst e
      rw [List.getElem?_set_self (by omega), List.getElem?_eq_getElem (by omega)]
    · rw [List.getElem?_set_ne e]
      exact hx j (by omega)
theorem toIntSS_ok (l : List (List Int)) (h : Small l) : Ep (fun k => laws_toIntSS.f k l) (· = l) := by
  have := h.1
  simp only [laws_toIntSS.f]
  refine Ep.pos (by omega) (Ep.pos (by simp; omega) ?_)
  exact toIntSS_l0 l h l.length 0 _ (by omega) (by simp) (fun j hj => by omega)
theorem eqIntSS_l0 (x : List (List Int)) (h : Small x) : ∀ (d i : Nat), i + d = x.length → Ep (fun k => laws_eqIntSS.l0 k x x (i : Int)) (· = true) := by
  intro d
  have := h.1
  induction d with
  | zero =>
    intro i hi
    refine Ep.up ?_
    simp only [laws_eqIntSS.l0]
    exact Ep.neg (by omega) (Ep.now rfl)
  | succ d ih =>
    intro i hi
    have hlt : i < x.length := by omega
    refine Ep.up ?_
    simp only [laws_eqIntSS.l0]
    refine Ep.pos (by omega) (Ep.pos (by omega) (Ep.pos (by omega) ?_))
    rw [rdL_get hlt, wrap_succ (by omega)]
    refine Ep.bind (eqIntS_ok _ (h.2 _ (List.getElem_mem hlt))) ?_
    rintro _ rfl
    exact Ep.pos rfl (ih (i + 1) (by omega))
theorem eqIntSS_ok (x : List (List Int)) (h : Small x) : Ep (fun k => laws_eqIntSS.f k x x) (· = true) := by
  simp only [laws_eqIntSS.f]
  exact Ep.pos trivial (eqIntSS_l0 x h x.length 0 (by omega))
/-- A row is added, column by column. -/
def addRow : List Int → List Int → List Int
  | o, [] => o
  | [], c :: r => wrap64 (0 + c) :: addRow [] r
  | a :: o, c :: r => wrap64 (a + c) :: addRow o r
theorem addRow_len : ∀ (o r : List Int), (addRow o r).length = max o.length r.length
  | o, [] => by cases o <;> simp [addRow]
  | [], c :: r => by simp [addRow, addRow_len [] r]
  | a :: o, c :: r => by simp [addRow, addRow_len o r]
theorem addRow_get : ∀ (o r : List Int) (i : Nat), (addRow o r)[i]? = if h : i < r.length then some (wrap64 (o.getD i 0 + r[i])) else o[i]?
  | o, [], i => by cases o <;> simp [addRow]
  | [], c :: r, 0 => by simp [addRow]
  | [], c :: r, i + 1 => by simp [addRow, addRow_get [] r i]
  | a :: o, c :: r, 0 => by simp [addRow]
  | a :: o, c :: r, i + 1 => by simp [addRow, addRow_get o r i]
def addAll : List Int → List (List Int) → List Int
  | o, [] => o
  | o, r :: t => addAll (addRow o r) t
/-- No zeros at the end. -/
def trimZ (l : List Int) : List Int := if h : 0 < l.length then if l[l.length - 1] = 0 then trimZ (l.take (l.length - 1)) else l else l
termination_by l.length
decreasing_by simp; omega
theorem addAll_len {B : Nat} : ∀ (t : List (List Int)) (o : List Int), o.length ≤ B → (∀ r ∈ t, r.length ≤ B) → (addAll o t).length ≤ B
  | [], o, h, _ => h
  | r :: t, o, h, hr => addAll_len t _ (by rw [addRow_len]; have := hr r List.mem_cons_self; omega) (fun x hx => hr x (List.mem_cons_of_mem _ hx))
theorem specTrim (l : List Int) (h : l.length ≤ 1048576) : Ep (fun k => spec_RowOfOne.l3 k l) (· = trimZ l) := by
  generalize hd : l.length = d
  induction d generalizing l with
  | zero =>
    refine Ep.up ?_
    simp only [spec_RowOfOne.l3]
    refine Ep.neg (by omega) (Ep.now ?_)
    unfold trimZ
    rw [dif_neg (by omega)]
  | succ d ih =>
    refine Ep.up ?_
    simp only [spec_RowOfOne.l3]
    have hw : wrap64 ((l.length : Int) - 1) = ((l.length - 1 : Nat) : Int) := by rw [wrap_id (by omega) (by omega)]; omega
    rw [hw]
    refine Ep.pos (by omega) (Ep.pos (by omega) (Ep.pos (by omega) ?_))
    rw [rd_get (show l.length - 1 < l.length by omega)]
    unfold trimZ
    rw [dif_pos (by omega)]
    refine Ep.ite (fun h0 => Ep.pos (by omega) ?_) (fun h0 => Ep.now ?_)
    · rw [if_pos h0, Int.toNat_natCast]
      exact ih _ (by rw [List.length_take]; omega) (by rw [List.length_take]; omega)
    · rw [if_neg h0]
theorem implTrim (l : List Int) (h : l.length ≤ 1048576) : Ep (fun k => impl_trimmed.l0 k l) (· = trimZ l) := by
  generalize hd : l.length = d
  induction d generalizing l with
  | zero =>
    refine Ep.up ?_
    simp only [impl_trimmed.l0]
    refine Ep.neg (by omega) (Ep.now ?_)
    unfold trimZ
    rw [dif_neg (by omega)]
  | succ d ih =>
    refine Ep.up ?_
    simp only [impl_trimmed.l0]
    have hw : wrap64 ((l.length : Int) - 1) = ((l.length - 1 : Nat) : Int) := by rw [wrap_id (by omega) (by omega)]; omega
    rw [hw]
    refine Ep.pos (by omega) (Ep.pos (by omega) (Ep.pos (by omega) ?_))
    rw [rd_get (show l.length - 1 < l.length by omega)]
    unfold trimZ
    rw [dif_pos (by omega)]
    refine Ep.ite (fun h0 => Ep.pos (by omega) ?_) (fun h0 => Ep.now ?_)
    · rw [if_pos h0, Int.toNat_natCast]
      exact ih _ (by rw [List.length_take]; omega) (by rw [List.length_take]; omega)
    · rw [if_neg h0]
/-- One more column of a row. -/
theorem addRow_take (o r : List Int) (i : Nat) (hi : i < r.length) : addRow o (r.take (i + 1)) = (addRow o (r.take i) ++ List.replicate (i + 1 - (addRow o (r.take i)).length) 0).set i (wrap64 (((addRow o (r.take i)) ++ List.replicate (i + 1 - (addRow o (r.take i)).length) 0).getD i 0 + r[i])) := by
  have hl : (addRow o (r.take i)).length = max o.length i := by rw [addRow_len, List.length_take]; omega
  have hget : ((addRow o (r.take i)) ++ List.replicate (i + 1 - (addRow o (r.take i)).length) 0).getD i 0 = o.getD i 0 := by
    simp only [List.getD_eq_getElem?_getD]
    by_cases h : i < o.length
    · rw [List.getElem?_append_left (by omega), addRow_get, dif_neg (by simp; omega)]
    · rw [List.getElem?_append_right (by omega), List.getElem?_replicate]
      rw [List.getElem?_eq_none (show o.length ≤ i by omega)]
      split <;> rfl
  rw [hget]
  apply List.ext_getElem?
  intro j
  rw [addRow_get]
  by_cases hj : j < i
  · rw [dif_pos (by simp; omega), List.getElem?_set_ne (by omega), List.getElem?_append_left (by omega), addRow_get, dif_pos (by simp; omega)]
    simp
  · by_cases e : j = i
    · subst e
      rw [dif_pos (by simp; omega), List.getElem?_set_self (by simp; omega)]
      simp
    · rw [dif_neg (by simp; omega), List.getElem?_set_ne (by omega)]
      by_cases h : j < o.length
      · rw [List.getElem?_append_left (by omega), addRow_get, dif_neg (by simp; omega)]
      · rw [List.getElem?_eq_none (show o.length ≤ j by omega), List.getElem?_eq_none (by simp; omega)]
theorem specPad (i : Nat) (n : Int) (x9 : List (List Int)) (x10 x11 : Int) (x15 : List Int) (x16 x17 : Int) (hi : i < 1048576) {Q : List Int → Prop} :
    ∀ (d : Nat) (o : List Int), i + 1 - o.length = d → o.length ≤ 1048576 →
      (Ep (fun k => spec_RowOfOne.l1 k ((o ++ List.replicate (i + 1 - o.length) 0).set i (wrap64 ((o ++ List.replicate (i + 1 - o.length) 0).getD i 0 + n))) x9 x10 x11 x15 x16 (wrap64 (x17 + 1))) Q) →
      Ep (fun k => spec_RowOfOne.l2 k o (i : Int) n x9 x10 x11 x15 x16 x17) Q := by
  intro d
  induction d with
  | zero =>
    intro o hd ho hk
    refine Ep.up ?_
    simp only [spec_RowOfOne.l2]
    refine Ep.neg (by omega) (Ep.pos (by omega) (Ep.pos (by omega) ?_))
    rw [hd] at hk
    rw [Int.toNat_natCast, rd_nat]
    simpa using hk
  | succ d ih =>
    intro o hd ho hk
    refine Ep.up ?_
    simp only [spec_RowOfOne.l2]
    refine Ep.pos (by omega) (Ep.pos (by omega) ?_)
    refine ih (o ++ [0]) (by simp; omega) (by simp; omega) ?_
    have e : o ++ [0] ++ List.replicate (i + 1 - (o ++ [0]).length) 0 = o ++ List.replicate (i + 1 - o.length) (0 : Int) := by
      rw [List.append_assoc]
      congr 1
      rw [show i + 1 - o.length = (i + 1 - (o ++ [0]).length) + 1 by simp; omega, List.replicate_succ]
      rfl
    rw [e]
    exact hk
theorem specRow_l1 (x9 : List (List Int)) (x10 x11 : Int) (o r : List Int) (ho : o.length ≤ 1048576) (hr : r.length ≤ 1048576) {Q : List Int → Prop}
    (hk : Ep (fun k => spec_RowOfOne.l0 k (addRow o r) x9 x10 (wrap64 (x11 + 1))) Q) :
    ∀ (d i : Nat), i + d = r.length → Ep (fun k => spec_RowOfOne.l1 k (addRow o (r.take i)) x9 x10 x11 r (r.length : Int) (i : Int)) Q := by
  intro d
  induction d with
  | zero =>
    intro i hi
    refine Ep.up ?_
    simp only [spec_RowOfOne.l1]
    refine Ep.neg (by omega) ?_
    rw [List.take_of_length_le (by omega)]
    exact hk
  | succ d ih =>
    intro i hi
    have hlt : i < r.length := by omega
    refine Ep.up ?_
    simp only [spec_RowOfOne.l1]
    refine Ep.pos (by omega) (Ep.pos (by omega) (Ep.pos (by omega) ?_))
    rw [rd_get hlt]
    refine specPad i _ x9 x10 x11 r _ _ (by omega) _ _ rfl (by rw [addRow_len, List.length_take]; omega) ?_
    rw [← addRow_take o r i hlt, wrap_succ (by omega)]
    exact ih (i + 1) (by omega)
theorem specRow_l0 (t : List (List Int)) (ht : Small t) : ∀ (d i : Nat) (o : List Int), i + d = t.length → o.length ≤ 1048576 → Ep (fun k => spec_RowOfOne.l0 k o t (t.length : Int) (i : Int)) (· = trimZ (addAll o (t.drop i))) := by
  intro d
  have := ht.1
  induction d with
  | zero =>
    intro i o hi ho
    refine Ep.up ?_
    simp only [spec_RowOfOne.l0]
    refine Ep.neg (by omega) ?_
    rw [List.drop_of_length_le (by omega)]
    exact specTrim o ho
  | succ d ih =>
    intro i o hi ho
    have hlt : i < t.length := by omega
    have hrl := ht.2 _ (List.getElem_mem hlt)
    refine Ep.up ?_
    simp only [spec_RowOfOne.l0]
    refine Ep.pos (by omega) (Ep.pos (by omega) (Ep.pos (by omega) ?_))
    rw [rdL_get hlt, List.drop_eq_getElem_cons hlt]
    have := specRow_l1 t (t.length : Int) (i : Int) o t[i] ho hrl (Q := (· = trimZ (addAll o (t[i] :: t.drop (i + 1))))) ?_ t[i].length 0 (by omega)
    · simpa [addRow] using this
    · rw [wrap_succ (by omega)]
      exact ih (i + 1) _ (by omega) (by rw [addRow_len]; omega)
theorem specRow (t : List (List Int)) (ht : Small t) : Ep (fun k => spec_RowOfOne.f k t) (· = trimZ (addAll [] t)) := by
  have := specRow_l0 t ht t.length 0 [] (by omega) (by simp)
  simp only [spec_RowOfOne.f]
  exact this
/-- Padding first changes nothing of the sums. -/
theorem addRow_pad (o r : List Int) : addRow (o ++ List.replicate (r.length - o.length) 0) r = addRow o r := by
  apply List.ext_getElem?
  intro i
  rw [addRow_get, addRow_get]
  by_cases h : i < r.length
  · rw [dif_pos h, dif_pos h]
    congr 2
    congr 1
    simp only [List.getD_eq_getElem?_getD]
    by_cases h2 : i < o.length
    · rw [List.getElem?_append_left h2]
    · rw [List.getElem?_append_right (by omega), List.getElem?_replicate, List.getElem?_eq_none (show o.length ≤ i by omega)]
      split <;> rfl
  · rw [dif_neg h, dif_neg h]
    by_cases h2 : i < o.length
    · rw [List.getElem?_append_left h2]
    · rw [List.getElem?_eq_none (by simp; omega), List.getElem?_eq_none (by omega)]
theorem implPad (x8 : List (List Int)) (x9 x10 : Int) (r : List Int) (hr : r.length ≤ 1048576) {Q : List Int → Prop} :
    ∀ (d : Nat) (o : List Int), r.length - o.length = d → o.length ≤ 1048576 →
      Ep (fun k => impl_RowOfOne.l2 k (o ++ List.replicate (r.length - o.length) 0) x8 x9 x10 r (r.length : Int) 0) Q →
      Ep (fun k => impl_RowOfOne.l1 k o r x8 x9 x10) Q := by
  intro d
  induction d with
  | zero =>
    intro o hd ho hk
    refine Ep.up ?_
    simp only [impl_RowOfOne.l1]
    refine Ep.neg (by omega) ?_
    rw [hd] at hk
    simpa using hk
  | succ d ih =>
    intro o hd ho hk
    refine Ep.up ?_
    simp only [impl_RowOfOne.l1]
    refine Ep.pos (by omega) (Ep.pos (by omega) ?_)
    refine ih (o ++ [0]) (by simp; omega) (by simp; omega) ?_
    have e : o ++ [0] ++ List.replicate (r.length - (o ++ [0]).length) 0 = o ++ List.replicate (r.length - o.length) (0 : Int) := by
      rw [List.append_assoc]
      congr 1
      rw [show r.length - o.length = (r.length - (o ++ [0]).length) + 1 by simp; omega, List.replicate_succ]
      rfl
    rw [e]
    exact hk
theorem implRow_l2 (x8 : List (List Int)) (x9 x10 : Int) (o r : List Int) (ho : r.length ≤ o.length) (ho2 : o.length ≤ 1048576) (hr : r.length ≤ 1048576) {Q : List Int → Prop}
    (hk : Ep (fun k => impl_RowOfOne.l0 k (addRow o r) x8 x9 (wrap64 (x10 + 1))) Q) :
    ∀ (d i : Nat), i + d = r.length → Ep (fun k => impl_RowOfOne.l2 k (addRow o (r.take i)) x8 x9 x10 r (r.length : Int) (i : Int)) Q := by
  intro d
  induction d with
  | zero =>
    intro i hi
    refine Ep.up ?_
    simp only [impl_RowOfOne.l2]
    refine Ep.neg (by omega) ?_
    rw [List.take_of_length_le (by omega)]
    exact hk
  | succ d ih =>
    intro i hi
    have hlt : i < r.length := by omega
    have hl : (addRow o (r.take i)).length = o.length := by rw [addRow_len, List.length_take]; omega
    refine Ep.up ?_
    simp only [impl_RowOfOne.l2]
    refine Ep.pos (by omega) (Ep.pos (by omega) (Ep.pos (by omega) (Ep.pos (by omega) ?_)))
    have := addRow_take o r i hlt
    rw [show i + 1 - (addRow o (r.take i)).length = 0 by omega] at this
    simp only [List.replicate_zero, List.append_nil] at this
    rw [rd_get hlt, rd_nat, Int.toNat_natCast, ← this, wrap_succ (by omega)]
    exact ih (i + 1) (by omega)
theorem implRow_l0 (t : List (List Int)) (ht : Small t) : ∀ (d i : Nat) (o : List Int), i + d = t.length → o.length ≤ 1048576 → Ep (fun k => impl_RowOfOne.l0 k o t (t.length : Int) (i : Int)) (· = trimZ (addAll o (t.drop i))) := by
  intro d
  have := ht.1
  induction d with
  | zero =>
    intro i o hi ho
    refine Ep.up ?_
    simp only [impl_RowOfOne.l0, impl_trimmed.f]
    refine Ep.neg (by omega) ?_
    rw [List.drop_of_length_le (by omega)]
    refine Ep.bind (implTrim o ho) ?_
    rintro _ rfl
    exact Ep.now rfl
  | succ d ih =>
    intro i o hi ho
    have hlt : i < t.length := by omega
    have hrl := ht.2 _ (List.getElem_mem hlt)
    refine Ep.up ?_
    simp only [impl_RowOfOne.l0]
    refine Ep.pos (by omega) (Ep.pos (by omega) (Ep.pos (by omega) ?_))
    rw [rdL_get hlt, List.drop_eq_getElem_cons hlt]
    refine implPad t _ _ t[i] hrl _ o rfl ho ?_
    have := implRow_l2 t (t.length : Int) (i : Int) (o ++ List.replicate (t[i].length - o.length) 0) t[i] (by simp; omega) (by simp; omega) hrl (Q := (· = trimZ (addAll o (t[i] :: t.drop (i + 1))))) ?_ t[i].length 0 (by omega)
    · simpa [addRow] using this
    · rw [wrap_succ (by omega), addRow_pad]
      exact ih (i + 1) _ (by omega) (by rw [addRow_len]; omega)
theorem implRow (t : List (List Int)) (ht : Small t) : Ep (fun k => impl_RowOfOne.f k t) (· = trimZ (addAll [] t)) := by
  have := implRow_l0 t ht t.length 0 [] (by omega) (by simp)
  simp only [impl_RowOfOne.f]
  exact this
theorem markSS_go (l : List (List Int)) : ∀ (a : Int) (m : Nat), (∀ r ∈ l, r.length ≤ 1048576) → m + l.length ≤ 1048576 → 0 ≤ a → a ≤ 1 + (m : Int) * 1048576 → Ep (fun k => laws_markIntSS.go k l a) (fun t => 0 ≤ t) := by
  induction l with
  | nil =>
    intro a m _ _ h0 _
    simp only [laws_markIntSS.go]
    exact Ep.now h0
  | cons x l ih =>
    intro a m hr hl h0 h1
    rw [List.length_cons] at hl
    have hx := hr x List.mem_cons_self
    simp only [laws_markIntSS.go]
    refine Ep.bind (markIntS_ok x a hx ⟨h0, by omega⟩) ?_
    rintro _ rfl
    exact ih (a + x.length) (m + 1) (fun r h => hr r (List.mem_cons_of_mem _ h)) (by omega) (by omega) (by omega)
theorem markSS_ok (l : List (List Int)) (h : Small l) : Ep (fun k => laws_markIntSS.f k l 1) (fun t => 0 ≤ t) := by
  have h1 := h.1
  simp only [laws_markIntSS.f]
  exact Ep.pos h1 (markSS_go l 1 0 h.2 (by omega) (by omega) (by omega))
theorem trimZ_len (l : List Int) : (trimZ l).length ≤ l.length := by
  induction hn : l.length using Nat.strongRecOn generalizing l with
  | _ n ih =>
    unfold trimZ
    split
    · split
      · have hl : (l.take (l.length - 1)).length = l.length - 1 := by rw [List.length_take]; omega
        have := ih (l.length - 1) (by omega) (l.take (l.length - 1)) hl
        omega
      · omega
    · omega
theorem law_FnExactRowOfOne (t : List (List Int)) (ht : SL (SL (Wf .i64)) t) : Ep (fun k => laws_FnExactRowOfOne.f k t) (· = true) := by
  simp only [laws_FnExactRowOfOne.f]
  refine Ep.bind (szIntSS_ok t ht) ?_
  intro s hs
  refine Ep.ite (fun _ => Ep.now rfl) (fun hc => ?_)
  have hS := hs (by omega)
  have hr : (trimZ (addAll [] t)).length ≤ 1048576 := Nat.le_trans (trimZ_len _) (addAll_len t [] (by simp) hS.2)
  refine Ep.bind (toIntSS_ok t hS) ?_
  intro x hx
  subst x
  refine Ep.bind (specRow t hS) ?_
  rintro _ rfl
  refine Ep.bind (toIntSS_ok t hS) ?_
  intro x hx
  subst x
  refine Ep.bind (implRow t hS) ?_
  rintro _ rfl
  simp only [laws_FnExactRowOfOne.tail]
  refine Ep.bind (eqIntS_ok _ hr) ?_
  rintro _ rfl
  refine Ep.pos rfl (Ep.bind (toIntSS_ok t hS) ?_)
  intro x hx
  subst x
  refine Ep.bind (eqIntSS_ok t hS) ?_
  rintro _ rfl
  refine Ep.pos rfl (Ep.bind (markSS_ok t hS) ?_)
  intro km hkm
  refine Ep.neg (by omega) (Ep.bind (eqIntS_ok _ hr) ?_)
  rintro _ rfl
  refine Ep.pos rfl (Ep.bind (markIntS_ok _ 1 hr ⟨by omega, by omega⟩) ?_)
  rintro _ rfl
  refine Ep.bind (heldIntS_ok _ 1 hr ⟨by omega, by omega⟩) ?_
  rintro _ rfl
  refine Ep.neg (by omega) (Ep.pos rfl (Ep.bind (toIntSS_ok t hS) ?_))
  intro x hx
  subst x
  refine Ep.bind (implRow t hS) ?_
  rintro _ rfl
  refine Ep.bind (eqIntS_ok _ hr) ?_
  rintro _ rfl
  refine Ep.pos rfl (Ep.bind (heldIntS_ok _ 1 hr ⟨by omega, by omega⟩) ?_)
  rintro _ rfl
  exact Ep.neg (by omega) (Ep.pos rfl (Ep.now rfl))
end Go.Proofs.Ytkcbinohpdhbgaa.Cf
end

section
namespace Go.Proofs.Ytkcbinohpdhbgaa.Cf
set_option linter.unusedVariables false
set_option linter.unusedSimpArgs false
open Go.RowKit Go.ChangeShapes Go.WideShapes Go.Deep Go.Joins Go.Proofs.YtkcbinohpdhbgaaW.PrintWords
section
variable {H : Type} {enc : TypeId × Value → H} {P : Program} {w : World} {base : Nat} {spare : Nat → Bool} {held : Bool}
/-- A slice, whatever its elements are, if each of them can be told. -/
theorem trod_C {α : Type} {d : Kd α} {Q : α → Prop} (hd : Inhabited α) {t e : TypeId} {fuel : Nat} {cs : List Value} {x : DataW H × List MemPlace} (ht : P.underlying t = some (.slice e)) (hsz : P.cellsOf e = d.sz)
    (hel : ∀ (n : Nat) (cs : List Value) (y : DataW H × List MemPlace), DataW.trod enc P w base spare held n e cs = some y → ∃ a : α, d.K w a cs ∧ Q a)
    (h : DataW.trod enc P w base spare held fuel t cs = some x) : ∃ A len cap xs, cs = [.slice A len cap] ∧ xs.length = len ∧ len ≤ cap ∧ Kd.C d w A len xs ∧ SL Q xs := by
  rcases open_slice ht h with ⟨rfl, _⟩ | ⟨a, len, cap, m, n, D, Pl, rfl, _, hl, hm, hmm, _, hx⟩
  · exact ⟨none, 0, 0, [], rfl, rfl, Nat.le_refl _, ⟨rfl, by omega, fun hn => by omega⟩, by simp, fun x hx => by cases hx⟩
  · have hlm : len ≤ m := by rw [hmm]; split <;> omega
    obtain ⟨X, hX⟩ := choose_lt (α := α) (n := len) (p := fun i z => Q z ∧ ∃ c, c.length = d.sz ∧ d.K w z c ∧ ∀ j u, c[j]? = some u → w.cell? (a.add (i * d.sz + j)) = some u) (fun i hi => by
      obtain ⟨cs', h1, h2⟩ := hx i (by omega)
      obtain ⟨z, hz, hq⟩ := hel n cs' _ h2
      obtain ⟨_, hlen, hc⟩ := World.cells?_some h1
      refine ⟨z, hq, cs', by rw [hlen, hsz], hz, fun j u hj => ?_⟩
      have hjl : j < cs'.length := by
        apply Classical.byContradiction
        intro hc
        rw [List.getElem?_eq_none (by omega)] at hj
        cases hj
      have := hc j (by omega)
      rw [Deep.add_add, hsz] at this
      rw [this, hj])
    refine ⟨some a, len, cap, (List.range len).map X, rfl, by simp, hl, ⟨by simp, ?_, fun _ => ⟨a, rfl, fun j p hj => ?_⟩⟩, by simp; unfold maxLen at hm; omega, fun x hx => ?_⟩
    · unfold maxLen at hm
      omega
    · have hjl : j < len := by
        apply Classical.byContradiction
        intro hc
        rw [List.getElem?_eq_none (by simp; omega)] at hj
        cases hj
      have : p = X j := by
        rw [List.getElem?_eq_getElem (by simpa using hjl)] at hj
        simpa using hj.symm
      subst this
      exact (hX j hjl).2
    · obtain ⟨i, hi, rfl⟩ := List.mem_map.1 hx
      exact (hX i (List.mem_range.1 hi)).1
theorem el_int {k : IntKind} {e : TypeId} (he : P.underlying e = some (.int k)) : ∀ (n : Nat) (cs : List Value) (y : DataW H × List MemPlace), DataW.trod enc P w base spare held n e cs = some y → ∃ a : Int, (Kd.int k).K w a cs ∧ Wf k a := by
  intro n cs y h
  obtain ⟨a, rfl, _, hw⟩ := DataW.trod_int he h
  exact ⟨a, rfl, hw⟩
theorem el_slice {α : Type} {d : Kd α} {Q : α → Prop} (hd : Inhabited α) {e q : TypeId} (he : P.underlying e = some (.slice q)) (hsz : P.cellsOf q = d.sz)
    (hel : ∀ (n : Nat) (cs : List Value) (y : DataW H × List MemPlace), DataW.trod enc P w base spare held n q cs = some y → ∃ a : α, d.K w a cs ∧ Q a) :
    ∀ (n : Nat) (cs : List Value) (y : DataW H × List MemPlace), DataW.trod enc P w base spare held n e cs = some y → ∃ a : List α, (Kd.slice q d).K w a cs ∧ SL Q a := by
  intro n cs y h
  obtain ⟨A, len, cap, xs, rfl, rfl, hl, hc, hq⟩ := trod_C hd he hsz hel h
  exact ⟨xs, ⟨A, cap, rfl, hl, hc⟩, hq⟩
/-- A slice that comes in. -/
theorem arg_slice {α : Type} {d : Kd α} {Q : α → Prop} (hd : Inhabited α) {t e : TypeId} {a : Option Addr} {len cap : Nat} {x : DataW H} {ps : List MemPlace} (ht : P.underlying t = some (.slice e)) (hsz : P.cellsOf e = d.sz)
    (hel : ∀ (n : Nat) (cs : List Value) (y : DataW H × List MemPlace), DataW.trod enc P w base spare held n e cs = some y → ∃ a : α, d.K w a cs ∧ Q a)
    (h : DataW.Trod enc P w base spare held t (.slice a len cap) x ps) : ∃ xs : List α, xs.length = len ∧ len ≤ cap ∧ Kd.C d w a len xs ∧ SL Q xs := by
  obtain ⟨fuel, hf⟩ := h
  obtain ⟨A, l, c, xs, hcs, hl, hc, hC, hq⟩ := trod_C hd ht hsz hel hf
  simp [Value.cells] at hcs
  obtain ⟨rfl, rfl, rfl⟩ := hcs
  exact ⟨xs, hl, hc, hC, hq⟩
end
end Go.Proofs.Ytkcbinohpdhbgaa.Cf
end

section
namespace Go.Proofs.Ytkcbinohpdhbgaa.Cf
theorem and2 {a b : Bool} (h : a = true) (k : b = true) : (a && b) = true := by rw [h, k]; rfl
theorem iniS : Try.prog.initOrder.toList = ['h', 'a', 'r', 'n', 'e', 's', 's', ' ', '5', '8', 'd', '1', '6', '8', '6', 'c', 'f', '1', '5', 'a', '4', '6', 'd', 'e', '2', 'd', 'b', '2', '2', '4', '6', '5', 'e', 'f', '8', '2', '4', '6', '0', 'd', 'f', 'a', '6', 'b', '7', '2', 'f', 'f', '4', '0', '5', '9', 'd', 'a', '5', '4', '8', '6', '4', 'd', 'e', '8', 'a', '7', '2', '6', 'b', 'b', 'e', 'c', '5', 'd', ' ', 'c', 'u', 't', ' ', 'a', 't', ' ', 'l', 'o', 'o', 'p', '.', 'e', 'x', 'a', 'm', 'p', 'l', 'e', '/', 'g', '0', '0', '8', '4', '1', '/', 'l', 'a', 'w', 's', '.', 'F', 'n', 'E', 'x', 'a', 'c', 't', 'G', 'r', 'o', 'u', 'p', 'F', 'a', 'c', 't', 'o', 'r', 's', ' ', 'l', 'o', 'o', 'p', '.', 'e', 'x', 'a', 'm', 'p', 'l', 'e', '/', 'g', '0', '0', '8', '4', '1', '/', 'l', 'a', 'w', 's', '.', 'F', 'n', 'E', 'x', 'a', 'c', 't', 'I', 's', 'C', 'y', 'c', 'l', 'i', 'c', ' ', 'l', 'o', 'o', 'p', '.', 'e', 'x', 'a', 'm', 'p', 'l', 'e', '/', 'g', '0', '0', '8', '4', '1', '/', 'l', 'a', 'w', 's', '.', 'F', 'n', 'O', 'r', 'd', 'e', 'r', 's', ' ', 'l', 'o', 'o', 'p', '.', 'e', 'x', 'a', 'm', 'p', 'l', 'e', '/', 'g', '0', '0', '8', '4', '1', '/', 'l', 'a', 'w', 's', '.', 'F', 'n', 'E', 'x', 'a', 'c', 't', 'R', 'o', 'w', 'O', 'f', 'O', 'n', 'e'] := by
  have h : Try.prog.initOrder = String.ofList ['h', 'a', 'r', 'n', 'e', 's', 's', ' ', '5', '8', 'd', '1', '6', '8', '6', 'c', 'f', '1', '5', 'a', '4', '6', 'd', 'e', '2', 'd', 'b', '2', '2', '4', '6', '5', 'e', 'f', '8', '2', '4', '6', '0', 'd', 'f', 'a', '6', 'b', '7', '2', 'f', 'f', '4', '0', '5', '9', 'd', 'a', '5', '4', '8', '6', '4', 'd', 'e', '8', 'a', '7', '2', '6', 'b', 'b', 'e', 'c', '5', 'd', ' ', 'c', 'u', 't', ' ', 'a', 't', ' ', 'l', 'o', 'o', 'p', '.', 'e', 'x', 'a', 'm', 'p', 'l', 'e', '/', 'g', '0', '0', '8', '4', '1', '/', 'l', 'a', 'w', 's', '.', 'F', 'n', 'E', 'x', 'a', 'c', 't', 'G', 'r', 'o', 'u', 'p', 'F', 'a', 'c', 't', 'o', 'r', 's', ' ', 'l', 'o', 'o', 'p', '.', 'e', 'x', 'a', 'm', 'p', 'l', 'e', '/', 'g', '0', '0', '8', '4', '1', '/', 'l', 'a', 'w', 's', '.', 'F', 'n', 'E', 'x', 'a', 'c', 't', 'I', 's', 'C', 'y', 'c', 'l', 'i', 'c', ' ', 'l', 'o', 'o', 'p', '.', 'e', 'x', 'a', 'm', 'p', 'l', 'e', '/', 'g', '0', '0', '8', '4', '1', '/', 'l', 'a', 'w', 's', '.', 'F', 'n', 'O', 'r', 'd', 'e', 'r', 's', ' ', 'l', 'o', 'o', 'p', '.', 'e', 'x', 'a', 'm', 'p', 'l', 'e', '/', 'g', '0', '0', '8', '4', '1', '/', 'l', 'a', 'w', 's', '.', 'F', 'n', 'E', 'x', 'a', 'c', 't', 'R', 'o', 'w', 'O', 'f', 'O', 'n', 'e'] := by kernel_rfl
  exact (congrArg String.toList h).trans String.toList_ofList
theorem iniW : behindMainWord (wordsSigns Try.prog.initOrder.toList) = [['c', 'u', 't'], ['a', 't'], ['l', 'o', 'o', 'p', '.', 'e', 'x', 'a', 'm', 'p', 'l', 'e', '/', 'g', '0', '0', '8', '4', '1', '/', 'l', 'a', 'w', 's', '.', 'F', 'n', 'E', 'x', 'a', 'c', 't', 'G', 'r', 'o', 'u', 'p', 'F', 'a', 'c', 't', 'o', 'r', 's'], ['l', 'o', 'o', 'p', '.', 'e', 'x', 'a', 'm', 'p', 'l', 'e', '/', 'g', '0', '0', '8', '4', '1', '/', 'l', 'a', 'w', 's', '.', 'F', 'n', 'E', 'x', 'a', 'c', 't', 'I', 's', 'C', 'y', 'c', 'l', 'i', 'c'], ['l', 'o', 'o', 'p', '.', 'e', 'x', 'a', 'm', 'p', 'l', 'e', '/', 'g', '0', '0', '8', '4', '1', '/', 'l', 'a', 'w', 's', '.', 'F', 'n', 'O', 'r', 'd', 'e', 'r', 's'], ['l', 'o', 'o', 'p', '.', 'e', 'x', 'a', 'm', 'p', 'l', 'e', '/', 'g', '0', '0', '8', '4', '1', '/', 'l', 'a', 'w', 's', '.', 'F', 'n', 'E', 'x', 'a', 'c', 't', 'R', 'o', 'w', 'O', 'f', 'O', 'n', 'e']] := (congrArg (fun x => behindMainWord (wordsSigns x)) iniS).trans (by kernel_rfl)
theorem mk_cut {P : Program} {r : List (List Char)} (h : behindMainWord (wordsSigns P.initOrder.toList) = ['c', 'u', 't'] :: r) : P.make = some .cut := by
  unfold Program.make
  rw [h]
  rfl
theorem lf_cut {P : Program} {r : List (List Char)} (h : behindMainWord (wordsSigns P.initOrder.toList) = ['c', 'u', 't'] :: r) (k : (stripLifts liftWords (['c', 'u', 't'] :: r)).1 = []) : P.liftsFinal = false := by
  unfold Program.liftsFinal Program.headLifts
  rw [h]
  simp [k]
theorem en_cut {P : Program} {r : List (List Char)} (h : behindMainWord (wordsSigns P.initOrder.toList) = ['c', 'u', 't'] :: r) (k1 : (stripLifts liftWords (['c', 'u', 't'] :: r)).1 = []) (k2 : ((stripLifts liftWords (['c', 'u', 't'] :: r)).2.head? == some "cut".toList) = true) (h1 : P.laysLater = false) (h2 : P.bearsReflect = false) (h3 : P.doorFits [] = true) : P.mayEnter = true := by
  unfold Program.mayEnter
  rw [h]
  simp only [k1, k2, h1, h2, h3]
  simp
theorem make : Try.prog.make = some .cut := mk_cut iniW
theorem lifted : Try.prog.liftsFinal = false := lf_cut iniW (by kernel_rfl)
theorem enter : Try.prog.mayEnter = true := en_cut iniW (by kernel_rfl) (by kernel_rfl) (by kernel_rfl) (by kernel_rfl) (by kernel_rfl)
end Go.Proofs.Ytkcbinohpdhbgaa.Cf
end

