/- A part of the proof of FnOrders. -/
import Derived.Test.YtkcbinohpdhbgaaBFnOrders3
import Derived.Test.YtkcbinohpdhbgaaBFnOrders0
import Derived.Test.YtkcbinohpdhbgaaBFnOrders1
import Derived.Test.YtkcbinohpdhbgaaBFnOrders2
set_option maxHeartbeats 8000000
set_option maxRecDepth 100000
section
namespace Go.Proofs.Ytkcbinohpdhbgaa.P
open Go.RowKit Go.Proofs.YtkcbinohpdhbgaaW.PrintWords Go.Proofs.YtkcbinohpdhbgaaW.PrintLast Go.Proofs.YtkcbinohpdhbgaaW.PrintMore
attribute [local go_sem] max2_int min2_int max_two min_two max_three min_three max_four min_four
set_option linter.unusedVariables false
set_option linter.unusedSimpArgs false
def laws_FnOrders.j0 : Nat → List Int → List Int → Int → Bool → Int → List (S76) → Option (Bool)
 | 0, _, _, _, _, _, _ => none
 | k + 1, x0, x4, x5, Q8, lL, lK => if Q8 = true then (none) else ((spec_MakeNum.f k x0 60).bind fun fE => ((impl_TimesClass.f k lL lK x4 (Int.tmod fE 20)).bind fun jS => (if x5 = 0 then (none) else ((impl_TimesClass.f k lL lK x4 (Int.tmod (Int.tmod fE 20) x5)).bind fun yN => ((impl_TimesClass.f k lL lK x4 (wrap64 (-(Int.tmod fE 20)))).bind fun oP => ((impl_InverseClass.f k lL lK jS.1).bind fun yM => ((impl_GroupFactors.f k lL lK).bind fun eX => ((impl_DifferenceClass.f k lL lK 1 0).bind fun yL => (if jS.2 = true then (if yN.2 = true then (if oP.2 = true then (if yM.2 = true then (if yL.2 = true then ((laws_same.f k jS.1 yN.1).bind fun yW => (if yW = true then ((laws_same.f k oP.1 yM.1).bind fun o7 => (if o7 = true then ((impl_DegreeOf.f k yL.1).bind fun qK => (if qK = 0 then (if (eX.length : Int) = 0 then (if x5 = 1 then (some true) else (if (eX.length : Int) > 0 then (if 0 ≤ (wrap64 ((eX.length : Int) - 1)) then (if (wrap64 ((eX.length : Int) - 1)) < (eX.length : Int) then (some ((Int.tmod (rd eX (wrap64 ((eX.length : Int) - 1))) x5) == 0)) else (none)) else (none)) else (none))) else (if (eX.length : Int) > 0 then (if 0 ≤ (wrap64 ((eX.length : Int) - 1)) then (if (wrap64 ((eX.length : Int) - 1)) < (eX.length : Int) then (some ((Int.tmod (rd eX (wrap64 ((eX.length : Int) - 1))) x5) == 0)) else (none)) else (none)) else (none))) else (none))) else (none))) else (none))) else (none)) else (none)) else (none)) else (none)) else (none))))))))))
def laws_FnOrders.f (k : Nat) (l0 : List Int) : Option (Bool) := if (l0.length : Int) > 1048576 then (some true) else ((spec_MakeGraph.f k l0).bind fun cA => ((spec_MakeZero.f k l0 20 cA.1 cA.2).bind fun bT => ((impl_OrderOf.f k cA.1 cA.2 bT).bind fun cT => (if cT < 1 then (laws_FnOrders.j0 k l0 bT cT true cA.1 cA.2) else ((impl_GroupOrder.f k cA.1 cA.2).bind fun fW => (if cT > fW then (laws_FnOrders.j0 k l0 bT cT true cA.1 cA.2) else ((impl_GroupOrder.f k cA.1 cA.2).bind fun iL => (if cT = 0 then (none) else (laws_FnOrders.j0 k l0 bT cT ((Int.tmod iL cT) != 0) cA.1 cA.2)))))))))
theorem laws_FnOrders.mono_l : ∀ k, (∀ y0 y1 y2 y3 y4 y5, LeO (laws_FnOrders.j0 k y0 y1 y2 y3 y4 y5) (laws_FnOrders.j0 (k + 1) y0 y1 y2 y3 y4 y5))
 | 0 => fun _ _ _ _ _ _ r h => by simp [laws_FnOrders.j0] at h
 | k + 1 => by
  have ih0 := laws_FnOrders.mono_l k
  ·intro y0 y1 y2 y3 y4 y5
   unfold laws_FnOrders.j0
   exact zm6
theorem laws_FnOrders.mono : ∀ a0 k, LeO (laws_FnOrders.f k a0) (laws_FnOrders.f (k + 1) a0) := by
 intro a0 k; have ih0 := laws_FnOrders.mono_l k; unfold laws_FnOrders.f; exact zm6
def laws_FnOrders.T10 : Bool × List (List Nat × List Nat) := (true, [([], []), ([], []), ([], []), ([], []), ([2, 3], [2, 3]), ([0, 1, 4], [0, 1, 4]), ([5], [5]), ([6], [6]), ([6], [6]), ([7, 5, 0, 1, 2, 3, 4, 5, 6, 7], [7]), ([8, 9, 0, 1, 2, 3, 4, 5, 6, 7, 8, 9], [8])])
def laws_FnOrders.B10 : List Nat := [0, 0, 0, 0, 12, 31, 63, 127, 127, 255, 1023]
theorem laws_FnOrders.tab10 : rtab .any (opsOf Try.f5 10) = laws_FnOrders.T10 := by kernel_rfl
theorem laws_FnOrders.bits10 : waitsOk laws_FnOrders.T10.2 laws_FnOrders.B10 = true := by kernel_rfl
theorem laws_FnOrders.calls (k : Nat) (A0 : Option Addr) (c0 : Nat) (l0 : List Int) (r : Bool) (w : World) (hr0 : Kd.C (Kd.int .u8) w A0 l0.length l0) (hc0 : l0.length ≤ c0) (h : laws_FnOrders.f k l0 = some r) :
  Calls Try.prog 5 #[.slice A0 l0.length c0] w fun e w' => e = .returned (.bool r) ∧ Below w.heap.size w w' := by
 have hu30 := Try.underlying30; have HR0 := zK_ hr0; have HC0 := zK_ hc0; clear hr0 hc0; have HB := zK_ (Below.refl w.heap.size w); have H : (if (l0.length : Int) > 1048576 then (some true) else ((spec_MakeGraph.f k l0).bind fun cA => ((spec_MakeZero.f k l0 20 cA.1 cA.2).bind fun bT => ((impl_OrderOf.f k cA.1 cA.2 bT).bind fun cT => (if cT < 1 then (laws_FnOrders.j0 k l0 bT cT true cA.1 cA.2) else ((impl_GroupOrder.f k cA.1 cA.2).bind fun fW => (if cT > fW then (laws_FnOrders.j0 k l0 bT cT true cA.1 cA.2) else ((impl_GroupOrder.f k cA.1 cA.2).bind fun iL => (if cT = 0 then (none) else (laws_FnOrders.j0 k l0 bT cT ((Int.tmod iL cT) != 0) cA.1 cA.2)))))))))) = some r := h; clear h; by_cases c2 : (l0.length : Int) > 1048576
 ·rw [if_pos c2] at H; have nA : decide (1048576 < (l0.length : Int)) = true := decide_eq_true c2; have tT : decide (1048576 < l0.length) = true := decide_eq_true (by omega); clear c2; obtain rfl := Option.some.inj H; go_enter Try.func5, Try.ntmps5; go_wp2; go_ret; exact ⟨zz10, zz2⟩
 rw [if_neg c2] at H; have nA : decide (1048576 < (l0.length : Int)) = false := decide_eq_false c2; have tT : decide (1048576 < l0.length) = false := decide_eq_false (by omega); clear c2; replace H := zO_ H; obtain ⟨⟨bH, aT⟩, A30, H⟩ := H; dsimp only at H; have A3 := zK_ A30; clear A30; obtain ⟨bT, A40, H⟩ := zO_ H; (try dsimp only at H); have A4 := zK_ A40; clear A40; obtain ⟨cT, A50, H⟩ := zO_ H; (try dsimp only at H); have A5 := zK_ A50; clear A50; have HC6 := zK_ H; clear H; go_enter Try.func5, Try.ntmps5; (go_upto_region 6 with (first | ((with_reducible refine gate_callee (f := 18) rfl ?_); refine goesL_ (some 22) rfl rfl Try.func18 (by kernel_rfl) rfl #[.slice A0 l0.length c0] rfl zz3 ?_; (with_reducible refine (spec_MakeGraph.calls k _ _ l0 bH aT _ ?side1 ?side2 A3.out).mono ?_); (case side1 => exact zz74); (case side2 => exact HC0.out); rintro e w7 ⟨v103, rfl, ho0, hb⟩; refine ⟨_, rfl, ?_⟩; have n_ := zA2 (Kd.R_lower ho0 (below_size zz2)) (below_step zz2 hb); clear HB; obtain ⟨cN, HB⟩ := n_; clear ho0 hb) | ((with_reducible refine gate_dst (N := 3) rfl ?_); (try (refine gate_guard (by rfl) ?_; dsimp only)); refine box_event ?hg (N := 3) ?hd (cs := #[.int .i64 0, .slice none 0 0]) (t := 30) ?hr ?_; (case hd => rfl); (case hg => rfl); (case hr => exact zz21); intro cY hg w8 hbox hb; have n_ := zA5 (Kd.R_below zz85 hb) (below_step zz2 hb) hbox (zz18 : w.heap.size ≤ cY) (zz18 : w.heap.size ≤ cY); clear cN HB; obtain ⟨cN, HB, aQ, GW105, GE105⟩ := n_; clear hb hbox hg; have fQ := zC20 aQ; have fP := zC21 aQ; have fO := blk_frozen aQ.out 0; have fN := blk_frozen aQ.out 1; obtain ⟨Ao10, co10, rW⟩ := Kd.R_slice cN.out; subst rW) | ((with_reducible refine gate_callee (f := 19) rfl ?_); refine goesL_ (some 25) rfl rfl Try.func19 (by kernel_rfl) rfl #[.slice A0 l0.length c0, .int .i64 20, .agg #[.int .i64 bH, .slice Ao10 aT.length co10]] rfl zz3 ?_; (with_reducible refine (spec_MakeZero.calls k _ _ l0 20 bH _ _ aT bT _ ?side1 ?side2 ?side3 ?side4 A4.out).mono ?_); (case side1 => exact Kd.C_below HR0.out zz8); (case side2 => exact HC0.out); (case side3 => refine (Kd.R_reads' (e := 76) (base := w.heap.size) (ok := fun k_ => True) (n := aT.length) (c := co10) ?_).2.2; exact zz142); (case side4 => exact (Kd.R_reads' cN.out).2.1); rintro e w11 ⟨v107, rfl, ho0, hb⟩; refine ⟨_, rfl, ?_⟩; have n_ := zA4 (Kd.R_below zz142 hb) (Kd.R_lower ho0 (below_size zz8)) (blk_below (g := cY) (o := .cells #[.int .i64 bH, .slice Ao10 aT.length co10] 30 (0, 0)) (by (with_reducible repeat (first | refine blk_drewN ?_ _ | refine blk_drew ?_ | refine blk_alloc ?_ _)); refine blk_put (cs := #[.int .i64 bH, .slice none 0 0]) ?_ 1 _ rfl; (with_reducible repeat (first | refine blk_drewN ?_ _ | refine blk_drew ?_ | refine blk_alloc ?_ _)); refine blk_put (cs := #[.int .i64 0, .slice none 0 0]) ?_ 0 _ rfl; (with_reducible repeat (first | refine blk_drewN ?_ _ | refine blk_drew ?_ | refine blk_alloc ?_ _)); exact aQ.out) hb) (below_step zz8 hb); clear cN aQ HB; obtain ⟨cN, fF, aQ, HB⟩ := n_; clear ho0 hb; have mB := zC20 aQ; have mA := zC21 aQ; have lW := blk_frozen aQ.out 0; have lV := blk_frozen aQ.out 1; obtain ⟨Ao13, co13, nW⟩ := Kd.R_slice fF.out; subst nW) | ((with_reducible refine gate_callee (f := 20) rfl ?_); refine goesL_ (some 28) rfl rfl Try.func20 (by kernel_rfl) rfl #[.agg #[.int .i64 bH, .slice Ao10 aT.length co10], .slice Ao13 bT.length co13] rfl zz3 ?_; (with_reducible refine (impl_OrderOf.calls k bH _ _ aT _ _ bT cT _ ?side1 ?side2 ?side3 ?side4 A5.out).mono ?_); (case side1 => exact zz75); (case side2 => exact (Kd.R_reads' cN.out).2.1); (case side3 => repeat (first | exact (Kd.R_reads' fF.out).2.2 | (with_reducible refine Kd.C_alloc ?_ _) | (with_reducible refine Kd.C_drewN ?_ _) | (with_reducible refine Kd.C_drew ?_))); (case side4 => exact (Kd.R_reads' fF.out).2.1); rintro e w14 ⟨rfl, hb⟩; refine ⟨_, rfl, ?_⟩; have n_ := zA4 (Kd.R_below zz85 hb) (Kd.R_below (by (with_reducible repeat (first | apply Kd.R_alloc | apply Kd.R_drewN | apply Kd.R_drew)); exact fF.out) hb) (blk_below (g := cY) (o := .cells #[.int .i64 bH, .slice Ao10 aT.length co10] 30 (0, 0)) zz30 hb) (below_step zz8 hb); clear cN fF aQ HB; obtain ⟨cN, fF, aQ, HB⟩ := n_; clear hb))); (try simp only [Act.put, List.setIfInBounds_toArray, List.set_cons_zero, List.set_cons_succ]); go_cut [43] (fun v43 wc => ∃ (kq : Nat) (rZ : Bool), v43 = .bool rZ ∧ Aside0 (laws_FnOrders.j0 kq l0 bT cT rZ bH aT = some r) ∧ Aside0 (kq ≤ k) ∧ Aside0 (Kd.R (Kd.int .i64) 3 wc w.heap.size (fun _ => True) (.slice Ao13 bT.length co13) bT) ∧ Aside0 (Kd.R k76 76 wc w.heap.size (fun _ => True) (.slice Ao10 aT.length co10) aT) ∧ Aside0 (wc.heap[cY]? = some (.cells #[.int .i64 bH, (.slice Ao10 aT.length co10)] 30 (0, 0))) ∧ Aside0 (Below w.heap.size w wc))
 case first =>
  have H := HC6.out; clear HC6; by_cases c15 : cT < 1
  ·rw [if_pos c15] at H; have i6 := decide_eq_true c15; clear c15; (first | rw [i6] | (simp only [i64_w, i32_w]; rw [i6]) | skip); have H' := zK_ H; clear H; go_wp2; (go_meet); case rel => exact ⟨_, (true), zz6, H', ⟨by first | omega | exact Nat.le_refl _⟩, ⟨by (with_reducible repeat (first | apply Kd.R_alloc | apply Kd.R_drewN | apply Kd.R_drew)); exact fF.out⟩, ⟨zz85⟩, ⟨by (with_reducible repeat (first | refine blk_drewN ?_ _ | refine blk_drew ?_ | refine blk_alloc ?_ _)); exact aQ.out⟩, ⟨zz8⟩⟩
  rw [if_neg c15] at H; have i6 := decide_eq_false c15; clear c15; (first | rw [i6] | (simp only [i64_w, i32_w]; rw [i6]) | skip); obtain ⟨fW, A160, H⟩ := zO_ H; (try dsimp only at H); have A16 := zK_ A160; clear A160; by_cases c17 : cT > fW
  ·rw [if_pos c17] at H; have jR : decide (fW < cT) = true := decide_eq_true c17; clear c17; have H' := zK_ H; clear H; have m7 := zC20 aQ; have m6 := zC21 aQ; have mZ := blk_frozen aQ.out 0; have mY := blk_frozen aQ.out 1; (go_wp2_with (first | (go_at_call 21; (with_reducible refine (impl_GroupOrder.calls k bH _ _ aT fW _ ?side1 ?side2 A16.out).mono ?_); (case side1 => exact zz75); (case side2 => exact (Kd.R_reads' cN.out).2.1); rintro e w19 ⟨rfl, hb⟩; have n_ := zA4 (Kd.R_below zz85 hb) (Kd.R_below (by (with_reducible repeat (first | apply Kd.R_alloc | apply Kd.R_drewN | apply Kd.R_drew)); exact fF.out) hb) (blk_below (g := cY) (o := .cells #[.int .i64 bH, .slice Ao10 aT.length co10] 30 (0, 0)) zz30 hb) (below_step zz8 hb); clear cN fF aQ HB; obtain ⟨cN, fF, aQ, HB⟩ := n_; (try clear hb); (try clear hb2); (try clear hk); (try clear hi)))); (go_meet); case rel => exact ⟨_, (true), zz6, H', ⟨by first | omega | exact Nat.le_refl _⟩, ⟨by (with_reducible repeat (first | apply Kd.R_alloc | apply Kd.R_drewN | apply Kd.R_drew)); exact fF.out⟩, ⟨zz85⟩, ⟨by (with_reducible repeat (first | refine blk_drewN ?_ _ | refine blk_drew ?_ | refine blk_alloc ?_ _)); exact aQ.out⟩, ⟨zz8⟩⟩
  rw [if_neg c17] at H; have jR : decide (fW < cT) = false := decide_eq_false c17; clear c17; obtain ⟨iL, A200, H⟩ := zO_ H; (try dsimp only at H); have A20 := zK_ A200; clear A200; by_cases c21 : cT = 0
  ·rw [if_pos c21] at H; exact absurd H (by simp)
  rw [if_neg c21] at H; have oM : (cT == 0) = false := beq_eq_false_iff_ne.mpr c21; have u4 : (cT != 0) = true := bne_iff_ne.mpr c21; have H' := zK_ H; clear H; have kA := zC20 aQ; have j9 := zC21 aQ; have j4 := blk_frozen aQ.out 0; have j3 := blk_frozen aQ.out 1; (go_wp2_with (first | (go_at_call 21; (with_reducible refine (impl_GroupOrder.calls k bH _ _ aT fW _ ?side1 ?side2 A16.out).mono ?_); (case side1 => exact zz75); (case side2 => exact (Kd.R_reads' cN.out).2.1); rintro e w23 ⟨rfl, hb⟩; have n_ := zA4 (Kd.R_below zz85 hb) (Kd.R_below (by (with_reducible repeat (first | apply Kd.R_alloc | apply Kd.R_drewN | apply Kd.R_drew)); exact fF.out) hb) (blk_below (g := cY) (o := .cells #[.int .i64 bH, .slice Ao10 aT.length co10] 30 (0, 0)) zz30 hb) (below_step zz8 hb); clear cN fF aQ HB; obtain ⟨cN, fF, aQ, HB⟩ := n_; (try clear hb); (try clear hb2); (try clear hk); (try clear hi); have l7 := zC20 aQ; have l6 := zC21 aQ; have lS := blk_frozen aQ.out 0; have lR := blk_frozen aQ.out 1) | (go_at_call 21; (with_reducible refine (impl_GroupOrder.calls k bH _ _ aT iL _ ?side1 ?side2 A20.out).mono ?_); (case side1 => exact zz75); (case side2 => exact (Kd.R_reads' cN.out).2.1); rintro e w25 ⟨rfl, hb⟩; have n_ := zA4 (Kd.R_below zz85 hb) (Kd.R_below (by (with_reducible repeat (first | apply Kd.R_alloc | apply Kd.R_drewN | apply Kd.R_drew)); exact fF.out) hb) (blk_below (g := cY) (o := .cells #[.int .i64 bH, .slice Ao10 aT.length co10] 30 (0, 0)) zz30 hb) (below_step zz8 hb); clear cN fF aQ HB; obtain ⟨cN, fF, aQ, HB⟩ := n_; (try clear hb); (try clear hb2); (try clear hk); (try clear hi)))); (go_meet); case rel => exact ⟨_, (((Int.tmod iL cT) != 0)), (by rw [show fW = iL from Option.some.inj (A16.out.symm.trans A20.out)]), H', ⟨by first | omega | exact Nat.le_refl _⟩, ⟨by (with_reducible repeat (first | apply Kd.R_alloc | apply Kd.R_drewN | apply Kd.R_drew)); exact fF.out⟩, ⟨zz85⟩, ⟨by (with_reducible repeat (first | refine blk_drewN ?_ _ | refine blk_drew ?_ | refine blk_alloc ?_ _)); exact aQ.out⟩, ⟨zz8⟩⟩
 case rest =>
  clear HC6; (try clear c1); (try clear c2); (try clear nA); (try clear tT); (try clear p2); (try clear c5); (try clear c15); (try clear i6); (try clear c17); (try clear jR); (try clear c18); (try clear c19); (try clear c20); (try clear c21); (try clear oM); (try clear u4); (try clear mB); (try clear mA); (try clear m7); (try clear m6); (try clear kA); (try clear j9); (try clear l7); (try clear l6); (try clear fQ); (try clear fP); (try clear lW); (try clear lV); (try clear mZ); (try clear mY); (try clear j4); (try clear j3); (try clear lS); (try clear lR); (try clear fO); (try clear fN); obtain ⟨kq, rZ, rfl, HA, HJ5, dM, aV, aQ, HB⟩ := hcut
  cases kq with
  | zero => exact absurd HA.out (by simp [laws_FnOrders.j0])
  | succ kj5 =>
   have H := HA.out; clear HA; simp only [laws_FnOrders.j0] at H; by_cases c26 : rZ = true
   ·subst c26; rw [if_pos rfl] at H; exact absurd H (by simp)
   replace c26 := Bool.eq_false_iff.mpr c26; subst c26; rw [if_neg (show ¬ (false = true) by decide)] at H; obtain ⟨fE, A270, H⟩ := zO_ H; (try dsimp only at H); have A27 := zK_ A270; clear A270; replace H := zO_ H; obtain ⟨⟨fD, mO⟩, A280, H⟩ := H; dsimp only at H; have A28 := zK_ A280; clear A280; by_cases c29 : cT = 0
   ·rw [if_pos c29] at H; exact absurd H (by simp)
   rw [if_neg c29] at H; have u1 : (cT == 0) = false := beq_eq_false_iff_ne.mpr c29; have yF : (cT != 0) = true := bne_iff_ne.mpr c29; replace H := zO_ H; obtain ⟨⟨tN, vY⟩, A300, H⟩ := H; dsimp only at H; have A30 := zK_ A300; clear A300; replace H := zO_ H; obtain ⟨⟨fM, jK⟩, A310, H⟩ := H; dsimp only at H; have A31 := zK_ A310; clear A310; replace H := zO_ H; obtain ⟨⟨hP, i4⟩, A320, H⟩ := H; dsimp only at H; have A32 := zK_ A320; clear A320; obtain ⟨eX, A330, H⟩ := zO_ H; (try dsimp only at H); have A33 := zK_ A330; clear A330; replace H := zO_ H; obtain ⟨⟨tM, JI⟩, A340, H⟩ := H; dsimp only at H; have A34 := zK_ A340; clear A340; by_cases c35 : mO = true; rotate_left
   ·replace c35 := Bool.eq_false_iff.mpr c35; subst c35; rw [if_neg (show ¬ (false = true) by decide)] at H; exact absurd H (by simp)
   subst c35; rw [if_pos rfl] at H; by_cases c36 : vY = true; rotate_left
   ·replace c36 := Bool.eq_false_iff.mpr c36; subst c36; rw [if_neg (show ¬ (false = true) by decide)] at H; exact absurd H (by simp)
   subst c36; rw [if_pos rfl] at H; by_cases c37 : jK = true; rotate_left
   ·replace c37 := Bool.eq_false_iff.mpr c37; subst c37; rw [if_neg (show ¬ (false = true) by decide)] at H; exact absurd H (by simp)
   subst c37; rw [if_pos rfl] at H; by_cases c38 : i4 = true; rotate_left
   ·replace c38 := Bool.eq_false_iff.mpr c38; subst c38; rw [if_neg (show ¬ (false = true) by decide)] at H; exact absurd H (by simp)
   subst c38; rw [if_pos rfl] at H; by_cases c39 : JI = true; rotate_left
   ·replace c39 := Bool.eq_false_iff.mpr c39; subst c39; rw [if_neg (show ¬ (false = true) by decide)] at H; exact absurd H (by simp)
   subst c39; rw [if_pos rfl] at H; obtain ⟨yW, A400, H⟩ := zO_ H; (try dsimp only at H); have A40 := zK_ A400; clear A400; by_cases c41 : yW = true; rotate_left
   ·replace c41 := Bool.eq_false_iff.mpr c41; subst c41; rw [if_neg (show ¬ (false = true) by decide)] at H; exact absurd H (by simp)
   subst c41; rw [if_pos rfl] at H; obtain ⟨o7, A420, H⟩ := zO_ H; (try dsimp only at H); have A42 := zK_ A420; clear A420; by_cases c43 : o7 = true; rotate_left
   ·replace c43 := Bool.eq_false_iff.mpr c43; subst c43; rw [if_neg (show ¬ (false = true) by decide)] at H; exact absurd H (by simp)
   subst c43; rw [if_pos rfl] at H; obtain ⟨qK, A440, H⟩ := zO_ H; (try dsimp only at H); have A44 := zK_ A440; clear A440; by_cases c45 : qK = 0; rotate_left
   ·rw [if_neg c45] at H; exact absurd H (by simp)
   rw [if_pos c45] at H; have yC : (qK == 0) = true := beq_iff_eq.mpr c45; have FA : (qK != 0) = false := bne_eq_false_iff_eq.mpr c45; clear c45; by_cases c46 : (eX.length : Int) = 0; rotate_left
   ·rw [if_neg c46] at H; have oJ : ((eX.length : Int) == 0) = false := beq_eq_false_iff_ne.mpr c46; have u0 : ((eX.length : Int) != 0) = true := bne_iff_ne.mpr c46; (have QT : ¬ (eX = []) := fun h_ => c46 (by rw [h_]; rfl)); by_cases c90 : (eX.length : Int) > 0; rotate_left
    ·rw [if_neg c90] at H; exact absurd H (by simp)
    rw [if_pos c90] at H; have QK : decide (0 < (eX.length : Int)) = true := decide_eq_true c90; have QJ : decide (0 < eX.length) = true := decide_eq_true (by omega); clear c90; obtain ⟨o9, jW⟩ : ∃ j_ : Int, (wrap64 ((eX.length : Int) - 1)) = j_ := ⟨_, rfl⟩; (replace H : (if 0 ≤ (o9) then (if (o9) < (eX.length : Int) then (some ((Int.tmod (rd eX (o9)) cT) == 0)) else (none)) else (none)) = some r := by first | (rw [jW] at H; exact H) | (simp only [jW] at H ⊢; exact H)); (try rw [jW] at A27); (try rw [jW] at A28); (try rw [jW] at A30); (try rw [jW] at A31); (try rw [jW] at A32); (try rw [jW] at A33); (try rw [jW] at A34); (try rw [jW] at A40); (try rw [jW] at A42); (try rw [jW] at A44); have LO : (IntKind.i64.wrap ((eX.length : Int) - 1)) = o9 := (i64_w _).trans jW; by_cases c92 : 0 ≤ (o9); rotate_left
    ·rw [if_neg c92] at H; exact absurd H (by simp)
    rw [if_pos c92] at H; have yA := decide_eq_true c92; clear c92; by_cases c93 : (o9) < (eX.length : Int); rotate_left
    ·rw [if_neg c93] at H; exact absurd H (by simp)
    rw [if_pos c93] at H; have QI := decide_eq_true c93; clear c93; obtain rfl := Option.some.inj H; (try go_wp2_with (first | ((with_reducible refine gate_callee (f := 22) rfl ?_); refine goesL_ (some 45) rfl rfl Try.func22 (by kernel_rfl) rfl #[.slice A0 l0.length c0, .int .i64 60] rfl zz3 ?_; (with_reducible refine (spec_MakeNum.calls kj5 _ _ l0 60 fE _ ?side1 ?side2 A27.out).mono ?_); (case side1 => exact zz63); (case side2 => exact HC0.out); rintro e w94 ⟨rfl, hb⟩; refine ⟨_, rfl, ?_⟩; have n_ := zA4 (Kd.R_below zz17 hb) (Kd.R_below zz38 hb) (blk_below (g := cY) (o := .cells #[.int .i64 bH, .slice Ao10 aT.length co10] 30 (0, 0)) zz30 hb) (below_step zz8 hb); clear dM aV aQ HB; obtain ⟨dM, aV, aQ, HB⟩ := n_; clear hb; have H9 := zC20 aQ; have H8 := zC21 aQ; have GL := blk_frozen aQ.out 0; have GK := blk_frozen aQ.out 1) | ((with_reducible refine gate_callee (f := 23) rfl ?_); refine goesL_ (some 51) rfl rfl Try.func23 (by kernel_rfl) rfl #[.agg #[.int .i64 bH, .slice Ao10 aT.length co10], .slice Ao13 bT.length co13, .int .i64 (Int.tmod fE 20)] rfl zz3 ?_; (with_reducible refine (impl_TimesClass.calls kj5 bH _ _ aT _ _ bT (Int.tmod fE 20) fD true _ ?side1 ?side2 ?side3 ?side4 A28.out).mono ?_); (case side1 => exact zz31); (case side2 => exact (Kd.R_reads' aV.out).2.1); (case side3 => exact zz64); (case side4 => exact (Kd.R_reads' dM.out).2.1); rintro e w96 ⟨v114, rfl, ho0, hb⟩; refine ⟨_, rfl, ?_⟩; have n_ := zA5 (Kd.R_elder' zz17 (Kd.R_base ho0) hb) (Kd.R_below zz38 hb) (Kd.R_lower (Kd.R_new' ho0 (Kd.R_lt zz17)) (below_size zz8)) (blk_below (g := cY) (o := .cells #[.int .i64 bH, .slice Ao10 aT.length co10] 30 (0, 0)) zz30 hb) (below_step zz8 hb); clear dM aV aQ HB; obtain ⟨dM, aV, b7, aQ, HB⟩ := n_; clear ho0 hb))); have n_ := zA5 (Kd.R_drew dM.out) (Kd.R_drew aV.out) (Kd.R_drew b7.out) (blk_drew aQ.out) (below_drew1 HB.out); clear dM aV b7 aQ HB; obtain ⟨dM, aV, b7, aQ, HB⟩ := n_; refine start_ (n := 11) (S := fun w' => w'.cell? ⟨cY, 0, none⟩ = some (.int .i64 bH) ∧ w'.cell? ⟨cY, 1, none⟩ = some (.slice Ao10 aT.length co10)) (ds := []) (zM 11 0) (by kernel_rfl) rfl rfl ⟨(blk_cell aQ.out 0).trans rfl, (blk_cell aQ.out 1).trans rfl⟩ (fun hHeld => ?_); refine with_tabW laws_FnOrders.tab10 laws_FnOrders.bits10 (fun HT_ HW_ => ?_); generalize w96.drew = w97 at dM aV b7 aQ HB hHeld ⊢; refine zQ 1 56 (zM 11 2) ?_
    refine zQ 2 57 (zM 11 6) ?_
    refine zQ 3 58 (zM 11 14) ?_
    refine zQ 4 59 (zM 11 30) ?_
    refine take_ (i := 0) (N := some 55) (v := ?_) (a' := ?_) (zM 11 31) rfl rfl (take_ofW HT_.out HW_.out (by kernel_rfl)) (fun _ _ _ h => h) (Or.inl ⟨by rfl, ?_⟩) hHeld ?_ ?_; rotate_left
    ·rintro w' ⟨s0, s1⟩; exact zzT
    rotate_left
    ·exact zzS
    refine one_ (i := 5) (N := some 60) (zM 11 63) rfl rfl (one_of HT_.out (by kernel_rfl)) (by decide) (fun K hK => ?_); refine goes_ Try.func23 (by kernel_rfl) rfl #[.agg #[.int .i64 bH, .slice Ao10 aT.length co10], .slice Ao13 bT.length co13, .int .i64 (Int.tmod (Int.tmod fE 20) cT)] (by rfl) rfl rfl zz3 ?_; (with_reducible refine (impl_TimesClass.calls kj5 bH _ _ aT _ _ bT (Int.tmod (Int.tmod fE 20) cT) tN true _ ?side1 ?side2 ?side3 ?side4 A30.out).mono ?_); (case side1 => exact zz31); (case side2 => exact (Kd.R_reads' aV.out).2.1); (case side3 => exact zz64); (case side4 => exact (Kd.R_reads' dM.out).2.1); rintro e w98 ⟨v118, rfl, ho0, hb⟩; refine ⟨_, rfl, ?_⟩; have n_ := zA6 (Kd.R_elder' zz17 (Kd.R_base ho0) hb) (Kd.R_below zz38 hb) (Kd.R_elder' zz28 (Kd.R_base ho0) hb) (Kd.R_lower (Kd.R_new' (Kd.R_new' ho0 (Kd.R_lt zz17)) (Kd.R_lt zz28)) (below_size zz8)) (blk_below (g := cY) (o := .cells #[.int .i64 bH, .slice Ao10 aT.length co10] 30 (0, 0)) zz30 hb) (below_step zz8 hb); clear dM aV b7 aQ HB; obtain ⟨dM, aV, b7, d3, aQ, HB⟩ := n_; clear ho0 hb; refine hK.out _ _ ⟨(blk_cell aQ.out 0).trans rfl, (blk_cell aQ.out 1).trans rfl⟩ (fun hHeld => ?_); clear hK K; refine norm_ (a' := ?_) ?_ ?_; rotate_left
    ·show Act.put _ (some 60) _ = _; exact zzS
    refine zQ 6 54 (zM 11 127) ?_
    refine zQ 7 61 (zM 11 255) ?_
    refine zQ 8 62 (zM 11 511) ?_
    refine zQ 9 9 (zM 11 1023) ?_
    refine zQ 10 10 (zM 11 2047) ?_
    refine done_ (done_of HT_.out (by kernel_rfl)) ?_; have H7 := zC20 aQ; have H6 := zC21 aQ; have GJ := blk_frozen aQ.out 0; have GI := blk_frozen aQ.out 1; (try go_wp2_with (first | ((with_reducible refine gate_callee (f := 23) rfl ?_); refine goesL_ (some 68) rfl rfl Try.func23 (by kernel_rfl) rfl #[.agg #[.int .i64 bH, .slice Ao10 aT.length co10], .slice Ao13 bT.length co13, .int .i64 (wrap64 (-(Int.tmod fE 20)))] rfl zz3 ?_; (with_reducible refine (impl_TimesClass.calls kj5 bH _ _ aT _ _ bT (wrap64 (-(Int.tmod fE 20))) fM true _ ?side1 ?side2 ?side3 ?side4 A31.out).mono ?_); (case side1 => exact zz31); (case side2 => exact (Kd.R_reads' aV.out).2.1); (case side3 => exact zz64); (case side4 => exact (Kd.R_reads' dM.out).2.1); rintro e w100 ⟨v122, rfl, ho0, hb⟩; refine ⟨_, rfl, ?_⟩; have n_ := zA7 (Kd.R_elder' zz17 (Kd.R_base ho0) hb) (Kd.R_below zz38 hb) (Kd.R_elder' zz28 (Kd.R_base ho0) hb) (Kd.R_elder' zz35 (Kd.R_base ho0) hb) (Kd.R_lower (Kd.R_new' (Kd.R_new' (Kd.R_new' ho0 (Kd.R_lt zz17)) (Kd.R_lt zz28)) (Kd.R_lt zz35)) (below_size zz8)) (blk_below (g := cY) (o := .cells #[.int .i64 bH, .slice Ao10 aT.length co10] 30 (0, 0)) zz30 hb) (below_step zz8 hb); clear dM aV b7 d3 aQ HB; obtain ⟨dM, aV, b7, d3, eG, aQ, HB⟩ := n_; clear ho0 hb; have D5 := zC20 aQ; have D4 := zC21 aQ; have CY := blk_frozen aQ.out 0; have CX := blk_frozen aQ.out 1; obtain ⟨Ao102, co102, E2⟩ := Kd.R_slice b7.out; subst E2) | ((with_reducible refine gate_callee (f := 24) rfl ?_); refine goesL_ (some 74) rfl rfl Try.func24 (by kernel_rfl) rfl #[.agg #[.int .i64 bH, .slice Ao10 aT.length co10], .slice Ao102 fD.length co102] rfl zz3 ?_; (with_reducible refine (impl_InverseClass.calls kj5 bH _ _ aT _ _ fD hP true _ ?side1 ?side2 ?side3 ?side4 A32.out).mono ?_); (case side1 => exact zz31); (case side2 => exact (Kd.R_reads' aV.out).2.1); (case side3 => exact zz87); (case side4 => exact (Kd.R_reads' b7.out).2.1); rintro e w103 ⟨v126, rfl, ho0, hb⟩; refine ⟨_, rfl, ?_⟩; have n_ := zA8 (Kd.R_elder' zz17 (Kd.R_base ho0) hb) (Kd.R_below zz38 hb) (Kd.R_elder' zz28 (Kd.R_base ho0) hb) (Kd.R_elder' zz35 (Kd.R_base ho0) hb) (Kd.R_elder' zz49 (Kd.R_base ho0) hb) (Kd.R_lower (Kd.R_new' (Kd.R_new' (Kd.R_new' (Kd.R_new' ho0 (Kd.R_lt zz17)) (Kd.R_lt zz28)) (Kd.R_lt zz35)) (Kd.R_lt zz49)) (below_size zz8)) (blk_below (g := cY) (o := .cells #[.int .i64 bH, .slice Ao10 aT.length co10] 30 (0, 0)) zz30 hb) (below_step zz8 hb); clear dM aV b7 d3 eG aQ HB; obtain ⟨dM, aV, b7, d3, eG, d6, aQ, HB⟩ := n_; clear ho0 hb; have uQ := zC20 aQ; have uP := zC21 aQ; have uO := blk_frozen aQ.out 0; have uN := blk_frozen aQ.out 1) | ((with_reducible refine gate_callee (f := 10) rfl ?_); refine goesL_ (some 78) rfl rfl Try.func10 (by kernel_rfl) rfl #[.agg #[.int .i64 bH, .slice Ao10 aT.length co10]] rfl zz3 ?_; (with_reducible refine (impl_GroupFactors.calls kj5 bH _ _ aT eX _ ?side1 ?side2 A33.out).mono ?_); (case side1 => exact zz31); (case side2 => exact (Kd.R_reads' aV.out).2.1); rintro e w105 ⟨v130, rfl, ho0, hb⟩; refine ⟨_, rfl, ?_⟩; have n_ := zA9 (Kd.R_elder' zz17 (Kd.R_base ho0) hb) (Kd.R_below zz38 hb) (Kd.R_elder' zz28 (Kd.R_base ho0) hb) (Kd.R_elder' zz35 (Kd.R_base ho0) hb) (Kd.R_elder' zz49 (Kd.R_base ho0) hb) (Kd.R_elder' zz48 (Kd.R_base ho0) hb) (Kd.R_lower (Kd.R_new' (Kd.R_new' (Kd.R_new' (Kd.R_new' (Kd.R_new' ho0 (Kd.R_lt zz17)) (Kd.R_lt zz28)) (Kd.R_lt zz35)) (Kd.R_lt zz49)) (Kd.R_lt zz48)) (below_size zz8)) (blk_below (g := cY) (o := .cells #[.int .i64 bH, .slice Ao10 aT.length co10] 30 (0, 0)) zz30 hb) (below_step zz8 hb); clear dM aV b7 d3 eG d6 aQ HB; obtain ⟨dM, aV, b7, d3, eG, d6, kH, aQ, HB⟩ := n_; clear ho0 hb; have D3 := zC20 aQ; have D2 := zC21 aQ; have CW := blk_frozen aQ.out 0; have CV := blk_frozen aQ.out 1) | ((with_reducible refine gate_callee (f := 25) rfl ?_); refine goesL_ (some 81) rfl rfl Try.func25 (by kernel_rfl) rfl #[.agg #[.int .i64 bH, .slice Ao10 aT.length co10], .int .i64 1, .int .i64 0] rfl zz3 ?_; (with_reducible refine (impl_DifferenceClass.calls kj5 bH _ _ aT 1 0 tM true _ ?side1 ?side2 A34.out).mono ?_); (case side1 => exact zz31); (case side2 => exact (Kd.R_reads' aV.out).2.1); rintro e w107 ⟨v133, rfl, ho0, hb⟩; refine ⟨_, rfl, ?_⟩; have n_ := zA10 (Kd.R_elder' zz17 (Kd.R_base ho0) hb) (Kd.R_below zz38 hb) (Kd.R_elder' zz28 (Kd.R_base ho0) hb) (Kd.R_elder' zz35 (Kd.R_base ho0) hb) (Kd.R_elder' zz49 (Kd.R_base ho0) hb) (Kd.R_elder' zz48 (Kd.R_base ho0) hb) (Kd.R_elder' zz117 (Kd.R_base ho0) hb) (Kd.R_lower (Kd.R_new' (Kd.R_new' (Kd.R_new' (Kd.R_new' (Kd.R_new' (Kd.R_new' ho0 (Kd.R_lt zz17)) (Kd.R_lt zz28)) (Kd.R_lt zz35)) (Kd.R_lt zz49)) (Kd.R_lt zz48)) (Kd.R_lt zz117)) (below_size zz8)) (blk_below (g := cY) (o := .cells #[.int .i64 bH, .slice Ao10 aT.length co10] 30 (0, 0)) zz30 hb) (below_step zz8 hb); clear dM aV b7 d3 eG d6 kH aQ HB; obtain ⟨dM, aV, b7, d3, eG, d6, kH, lJ, aQ, HB⟩ := n_; clear ho0 hb; obtain ⟨Ao108, co108, E1⟩ := Kd.R_slice d3.out; subst E1) | (go_at_call 26; (with_reducible refine (laws_same.calls kj5 _ _ fD _ _ tN true _ ?side1 ?side2 ?side3 ?side4 A40.out).mono ?_); (case side1 => exact zz87); (case side2 => exact (Kd.R_reads' b7.out).2.1); (case side3 => repeat (first | exact (Kd.R_reads' d3.out).2.2 | (with_reducible refine Kd.C_alloc ?_ _) | (with_reducible refine Kd.C_drewN ?_ _) | (with_reducible refine Kd.C_drew ?_))); (case side4 => exact (Kd.R_reads' d3.out).2.1); rintro e w' ⟨rfl, ⟨nd, rfl⟩⟩; obtain ⟨Ao109, co109, uW⟩ := Kd.R_slice eG.out; subst uW; obtain ⟨Ao110, co110, E0⟩ := Kd.R_slice d6.out; subst E0) | (go_at_call 26; (with_reducible refine (laws_same.calls kj5 _ _ fM _ _ hP true _ ?side1 ?side2 ?side3 ?side4 A42.out).mono ?_); (case side1 => repeat (first | exact (Kd.R_reads' eG.out).2.2 | (with_reducible refine Kd.C_alloc ?_ _) | (with_reducible refine Kd.C_drewN ?_ _) | (with_reducible refine Kd.C_drew ?_))); (case side2 => exact (Kd.R_reads' eG.out).2.1); (case side3 => exact zz103); (case side4 => exact (Kd.R_reads' d6.out).2.1); rintro e w' ⟨rfl, ⟨nd, rfl⟩⟩; obtain ⟨Ao111, co111, EZ⟩ := Kd.R_slice lJ.out; subst EZ) | (go_at_call 27; (with_reducible refine (impl_DegreeOf.calls kj5 _ _ tM qK _ ?side1 ?side2 A44.out).mono ?_); (case side1 => repeat (first | exact (Kd.R_reads' lJ.out).2.2 | (with_reducible refine Kd.C_alloc ?_ _) | (with_reducible refine Kd.C_drewN ?_ _) | (with_reducible refine Kd.C_drew ?_))); (case side2 => exact (Kd.R_reads' lJ.out).2.1); rintro e w' ⟨rfl, ⟨nd, rfl⟩⟩; obtain ⟨Ao112, co112, EY⟩ := Kd.R_slice kH.out; subst EY; have p140 : 0 ≤ ((o9) : Int) := of_decide_eq_true zz4; have q140 : (o9) < (eX.length : Int) := of_decide_eq_true zz4; obtain ⟨Q2, e140, GG⟩ := Kd.at_int (Kd.R_reads' kH.out).2.2 (o9) p140 q140; cases e140; replace p140 := eq_true p140; replace q140 := eq_true q140))); go_ret; exact ⟨by first | rfl | (simp [errW_none, errW_some] <;> rfl) | (simp only [← jW]; first | rfl | (simp [errW_none, errW_some] <;> rfl)) | (simp [*, errW_none, errW_some] <;> rfl), zz8⟩
   rw [if_pos c46] at H; have oJ : ((eX.length : Int) == 0) = true := beq_iff_eq.mpr c46; have u0 : ((eX.length : Int) != 0) = false := bne_eq_false_iff_eq.mpr c46; clear c46; by_cases c47 : cT = 1
   ·rw [if_pos c47] at H; have uZ : (cT == 1) = true := beq_iff_eq.mpr c47; have uY : (cT != 1) = false := bne_eq_false_iff_eq.mpr c47; clear c47; obtain rfl := Option.some.inj H; (try go_wp2_with (first | ((with_reducible refine gate_callee (f := 22) rfl ?_); refine goesL_ (some 45) rfl rfl Try.func22 (by kernel_rfl) rfl #[.slice A0 l0.length c0, .int .i64 60] rfl zz3 ?_; (with_reducible refine (spec_MakeNum.calls kj5 _ _ l0 60 fE _ ?side1 ?side2 A27.out).mono ?_); (case side1 => exact zz63); (case side2 => exact HC0.out); rintro e w48 ⟨rfl, hb⟩; refine ⟨_, rfl, ?_⟩; have n_ := zA4 (Kd.R_below zz17 hb) (Kd.R_below zz38 hb) (blk_below (g := cY) (o := .cells #[.int .i64 bH, .slice Ao10 aT.length co10] 30 (0, 0)) zz30 hb) (below_step zz8 hb); clear dM aV aQ HB; obtain ⟨dM, aV, aQ, HB⟩ := n_; clear hb; have sU := zC20 aQ; have sT := zC21 aQ; have sK := blk_frozen aQ.out 0; have sJ := blk_frozen aQ.out 1) | ((with_reducible refine gate_callee (f := 23) rfl ?_); refine goesL_ (some 51) rfl rfl Try.func23 (by kernel_rfl) rfl #[.agg #[.int .i64 bH, .slice Ao10 aT.length co10], .slice Ao13 bT.length co13, .int .i64 (Int.tmod fE 20)] rfl zz3 ?_; (with_reducible refine (impl_TimesClass.calls kj5 bH _ _ aT _ _ bT (Int.tmod fE 20) fD true _ ?side1 ?side2 ?side3 ?side4 A28.out).mono ?_); (case side1 => exact zz31); (case side2 => exact (Kd.R_reads' aV.out).2.1); (case side3 => exact zz64); (case side4 => exact (Kd.R_reads' dM.out).2.1); rintro e w50 ⟨v114, rfl, ho0, hb⟩; refine ⟨_, rfl, ?_⟩; have n_ := zA5 (Kd.R_elder' zz17 (Kd.R_base ho0) hb) (Kd.R_below zz38 hb) (Kd.R_lower (Kd.R_new' ho0 (Kd.R_lt zz17)) (below_size zz8)) (blk_below (g := cY) (o := .cells #[.int .i64 bH, .slice Ao10 aT.length co10] 30 (0, 0)) zz30 hb) (below_step zz8 hb); clear dM aV aQ HB; obtain ⟨dM, aV, b7, aQ, HB⟩ := n_; clear ho0 hb))); have n_ := zA5 (Kd.R_drew dM.out) (Kd.R_drew aV.out) (Kd.R_drew b7.out) (blk_drew aQ.out) (below_drew1 HB.out); clear dM aV b7 aQ HB; obtain ⟨dM, aV, b7, aQ, HB⟩ := n_; refine start_ (n := 11) (S := fun w' => w'.cell? ⟨cY, 0, none⟩ = some (.int .i64 bH) ∧ w'.cell? ⟨cY, 1, none⟩ = some (.slice Ao10 aT.length co10)) (ds := []) (zM 11 0) (by kernel_rfl) rfl rfl ⟨(blk_cell aQ.out 0).trans rfl, (blk_cell aQ.out 1).trans rfl⟩ (fun hHeld => ?_); refine with_tabW laws_FnOrders.tab10 laws_FnOrders.bits10 (fun HT_ HW_ => ?_); generalize w50.drew = w51 at dM aV b7 aQ HB hHeld ⊢; refine zQ 1 56 (zM 11 2) ?_
    refine zQ 2 57 (zM 11 6) ?_
    refine zQ 3 58 (zM 11 14) ?_
    refine zQ 4 59 (zM 11 30) ?_
    refine take_ (i := 0) (N := some 55) (v := ?_) (a' := ?_) (zM 11 31) rfl rfl (take_ofW HT_.out HW_.out (by kernel_rfl)) (fun _ _ _ h => h) (Or.inl ⟨by rfl, ?_⟩) hHeld ?_ ?_; rotate_left
    ·rintro w' ⟨s0, s1⟩; exact zzT
    rotate_left
    ·exact zzS
    refine one_ (i := 5) (N := some 60) (zM 11 63) rfl rfl (one_of HT_.out (by kernel_rfl)) (by decide) (fun K hK => ?_); refine goes_ Try.func23 (by kernel_rfl) rfl #[.agg #[.int .i64 bH, .slice Ao10 aT.length co10], .slice Ao13 bT.length co13, .int .i64 (Int.tmod (Int.tmod fE 20) cT)] (by rfl) rfl rfl zz3 ?_; (with_reducible refine (impl_TimesClass.calls kj5 bH _ _ aT _ _ bT (Int.tmod (Int.tmod fE 20) cT) tN true _ ?side1 ?side2 ?side3 ?side4 A30.out).mono ?_); (case side1 => exact zz31); (case side2 => exact (Kd.R_reads' aV.out).2.1); (case side3 => exact zz64); (case side4 => exact (Kd.R_reads' dM.out).2.1); rintro e w52 ⟨v118, rfl, ho0, hb⟩; refine ⟨_, rfl, ?_⟩; have n_ := zA6 (Kd.R_elder' zz17 (Kd.R_base ho0) hb) (Kd.R_below zz38 hb) (Kd.R_elder' zz28 (Kd.R_base ho0) hb) (Kd.R_lower (Kd.R_new' (Kd.R_new' ho0 (Kd.R_lt zz17)) (Kd.R_lt zz28)) (below_size zz8)) (blk_below (g := cY) (o := .cells #[.int .i64 bH, .slice Ao10 aT.length co10] 30 (0, 0)) zz30 hb) (below_step zz8 hb); clear dM aV b7 aQ HB; obtain ⟨dM, aV, b7, d3, aQ, HB⟩ := n_; clear ho0 hb; refine hK.out _ _ ⟨(blk_cell aQ.out 0).trans rfl, (blk_cell aQ.out 1).trans rfl⟩ (fun hHeld => ?_); clear hK K; refine norm_ (a' := ?_) ?_ ?_; rotate_left
    ·show Act.put _ (some 60) _ = _; exact zzS
    refine zQ 6 54 (zM 11 127) ?_
    refine zQ 7 61 (zM 11 255) ?_
    refine zQ 8 62 (zM 11 511) ?_
    refine zQ 9 9 (zM 11 1023) ?_
    refine zQ 10 10 (zM 11 2047) ?_
    refine done_ (done_of HT_.out (by kernel_rfl)) ?_; have I8 := zC20 aQ; have I7 := zC21 aQ; have H1 := blk_frozen aQ.out 0; have H0 := blk_frozen aQ.out 1; (try go_wp2_with (first | ((with_reducible refine gate_callee (f := 23) rfl ?_); refine goesL_ (some 68) rfl rfl Try.func23 (by kernel_rfl) rfl #[.agg #[.int .i64 bH, .slice Ao10 aT.length co10], .slice Ao13 bT.length co13, .int .i64 (wrap64 (-(Int.tmod fE 20)))] rfl zz3 ?_; (with_reducible refine (impl_TimesClass.calls kj5 bH _ _ aT _ _ bT (wrap64 (-(Int.tmod fE 20))) fM true _ ?side1 ?side2 ?side3 ?side4 A31.out).mono ?_); (case side1 => exact zz31); (case side2 => exact (Kd.R_reads' aV.out).2.1); (case side3 => exact zz64); (case side4 => exact (Kd.R_reads' dM.out).2.1); rintro e w54 ⟨v122, rfl, ho0, hb⟩; refine ⟨_, rfl, ?_⟩; have n_ := zA7 (Kd.R_elder' zz17 (Kd.R_base ho0) hb) (Kd.R_below zz38 hb) (Kd.R_elder' zz28 (Kd.R_base ho0) hb) (Kd.R_elder' zz35 (Kd.R_base ho0) hb) (Kd.R_lower (Kd.R_new' (Kd.R_new' (Kd.R_new' ho0 (Kd.R_lt zz17)) (Kd.R_lt zz28)) (Kd.R_lt zz35)) (below_size zz8)) (blk_below (g := cY) (o := .cells #[.int .i64 bH, .slice Ao10 aT.length co10] 30 (0, 0)) zz30 hb) (below_step zz8 hb); clear dM aV b7 d3 aQ HB; obtain ⟨dM, aV, b7, d3, eG, aQ, HB⟩ := n_; clear ho0 hb; have pQ := zC20 aQ; have pP := zC21 aQ; have pE := blk_frozen aQ.out 0; have pD := blk_frozen aQ.out 1; obtain ⟨Ao56, co56, zO⟩ := Kd.R_slice b7.out; subst zO) | ((with_reducible refine gate_callee (f := 24) rfl ?_); refine goesL_ (some 74) rfl rfl Try.func24 (by kernel_rfl) rfl #[.agg #[.int .i64 bH, .slice Ao10 aT.length co10], .slice Ao56 fD.length co56] rfl zz3 ?_; (with_reducible refine (impl_InverseClass.calls kj5 bH _ _ aT _ _ fD hP true _ ?side1 ?side2 ?side3 ?side4 A32.out).mono ?_); (case side1 => exact zz31); (case side2 => exact (Kd.R_reads' aV.out).2.1); (case side3 => exact zz87); (case side4 => exact (Kd.R_reads' b7.out).2.1); rintro e w57 ⟨v126, rfl, ho0, hb⟩; refine ⟨_, rfl, ?_⟩; have n_ := zA8 (Kd.R_elder' zz17 (Kd.R_base ho0) hb) (Kd.R_below zz38 hb) (Kd.R_elder' zz28 (Kd.R_base ho0) hb) (Kd.R_elder' zz35 (Kd.R_base ho0) hb) (Kd.R_elder' zz49 (Kd.R_base ho0) hb) (Kd.R_lower (Kd.R_new' (Kd.R_new' (Kd.R_new' (Kd.R_new' ho0 (Kd.R_lt zz17)) (Kd.R_lt zz28)) (Kd.R_lt zz35)) (Kd.R_lt zz49)) (below_size zz8)) (blk_below (g := cY) (o := .cells #[.int .i64 bH, .slice Ao10 aT.length co10] 30 (0, 0)) zz30 hb) (below_step zz8 hb); clear dM aV b7 d3 eG aQ HB; obtain ⟨dM, aV, b7, d3, eG, d6, aQ, HB⟩ := n_; clear ho0 hb; have I6 := zC20 aQ; have I5 := zC21 aQ; have HY := blk_frozen aQ.out 0; have HU := blk_frozen aQ.out 1) | ((with_reducible refine gate_callee (f := 10) rfl ?_); refine goesL_ (some 78) rfl rfl Try.func10 (by kernel_rfl) rfl #[.agg #[.int .i64 bH, .slice Ao10 aT.length co10]] rfl zz3 ?_; (with_reducible refine (impl_GroupFactors.calls kj5 bH _ _ aT eX _ ?side1 ?side2 A33.out).mono ?_); (case side1 => exact zz31); (case side2 => exact (Kd.R_reads' aV.out).2.1); rintro e w59 ⟨v130, rfl, ho0, hb⟩; refine ⟨_, rfl, ?_⟩; have n_ := zA9 (Kd.R_elder' zz17 (Kd.R_base ho0) hb) (Kd.R_below zz38 hb) (Kd.R_elder' zz28 (Kd.R_base ho0) hb) (Kd.R_elder' zz35 (Kd.R_base ho0) hb) (Kd.R_elder' zz49 (Kd.R_base ho0) hb) (Kd.R_elder' zz48 (Kd.R_base ho0) hb) (Kd.R_lower (Kd.R_new' (Kd.R_new' (Kd.R_new' (Kd.R_new' (Kd.R_new' ho0 (Kd.R_lt zz17)) (Kd.R_lt zz28)) (Kd.R_lt zz35)) (Kd.R_lt zz49)) (Kd.R_lt zz48)) (below_size zz8)) (blk_below (g := cY) (o := .cells #[.int .i64 bH, .slice Ao10 aT.length co10] 30 (0, 0)) zz30 hb) (below_step zz8 hb); clear dM aV b7 d3 eG d6 aQ HB; obtain ⟨dM, aV, b7, d3, eG, d6, kH, aQ, HB⟩ := n_; clear ho0 hb; have xB := zC20 aQ; have xA := zC21 aQ; have wJ := blk_frozen aQ.out 0; have wI := blk_frozen aQ.out 1) | ((with_reducible refine gate_callee (f := 25) rfl ?_); refine goesL_ (some 81) rfl rfl Try.func25 (by kernel_rfl) rfl #[.agg #[.int .i64 bH, .slice Ao10 aT.length co10], .int .i64 1, .int .i64 0] rfl zz3 ?_; (with_reducible refine (impl_DifferenceClass.calls kj5 bH _ _ aT 1 0 tM true _ ?side1 ?side2 A34.out).mono ?_); (case side1 => exact zz31); (case side2 => exact (Kd.R_reads' aV.out).2.1); rintro e w61 ⟨v133, rfl, ho0, hb⟩; refine ⟨_, rfl, ?_⟩; have n_ := zA10 (Kd.R_elder' zz17 (Kd.R_base ho0) hb) (Kd.R_below zz38 hb) (Kd.R_elder' zz28 (Kd.R_base ho0) hb) (Kd.R_elder' zz35 (Kd.R_base ho0) hb) (Kd.R_elder' zz49 (Kd.R_base ho0) hb) (Kd.R_elder' zz48 (Kd.R_base ho0) hb) (Kd.R_elder' zz117 (Kd.R_base ho0) hb) (Kd.R_lower (Kd.R_new' (Kd.R_new' (Kd.R_new' (Kd.R_new' (Kd.R_new' (Kd.R_new' ho0 (Kd.R_lt zz17)) (Kd.R_lt zz28)) (Kd.R_lt zz35)) (Kd.R_lt zz49)) (Kd.R_lt zz48)) (Kd.R_lt zz117)) (below_size zz8)) (blk_below (g := cY) (o := .cells #[.int .i64 bH, .slice Ao10 aT.length co10] 30 (0, 0)) zz30 hb) (below_step zz8 hb); clear dM aV b7 d3 eG d6 kH aQ HB; obtain ⟨dM, aV, b7, d3, eG, d6, kH, lJ, aQ, HB⟩ := n_; clear ho0 hb; obtain ⟨Ao62, co62, M5⟩ := Kd.R_slice d3.out; subst M5) | (go_at_call 26; (with_reducible refine (laws_same.calls kj5 _ _ fD _ _ tN true _ ?side1 ?side2 ?side3 ?side4 A40.out).mono ?_); (case side1 => exact zz87); (case side2 => exact (Kd.R_reads' b7.out).2.1); (case side3 => repeat (first | exact (Kd.R_reads' d3.out).2.2 | (with_reducible refine Kd.C_alloc ?_ _) | (with_reducible refine Kd.C_drewN ?_ _) | (with_reducible refine Kd.C_drew ?_))); (case side4 => exact (Kd.R_reads' d3.out).2.1); rintro e w' ⟨rfl, ⟨nd, rfl⟩⟩; obtain ⟨Ao63, co63, M4⟩ := Kd.R_slice eG.out; subst M4; obtain ⟨Ao64, co64, tO⟩ := Kd.R_slice d6.out; subst tO) | (go_at_call 26; (with_reducible refine (laws_same.calls kj5 _ _ fM _ _ hP true _ ?side1 ?side2 ?side3 ?side4 A42.out).mono ?_); (case side1 => repeat (first | exact (Kd.R_reads' eG.out).2.2 | (with_reducible refine Kd.C_alloc ?_ _) | (with_reducible refine Kd.C_drewN ?_ _) | (with_reducible refine Kd.C_drew ?_))); (case side2 => exact (Kd.R_reads' eG.out).2.1); (case side3 => exact zz103); (case side4 => exact (Kd.R_reads' d6.out).2.1); rintro e w' ⟨rfl, ⟨nd, rfl⟩⟩; obtain ⟨Ao65, co65, qB⟩ := Kd.R_slice lJ.out; subst qB) | (go_at_call 27; (with_reducible refine (impl_DegreeOf.calls kj5 _ _ tM qK _ ?side1 ?side2 A44.out).mono ?_); (case side1 => repeat (first | exact (Kd.R_reads' lJ.out).2.2 | (with_reducible refine Kd.C_alloc ?_ _) | (with_reducible refine Kd.C_drewN ?_ _) | (with_reducible refine Kd.C_drew ?_))); (case side2 => exact (Kd.R_reads' lJ.out).2.1); rintro e w' ⟨rfl, ⟨nd, rfl⟩⟩; obtain ⟨Ao66, co66, zN⟩ := Kd.R_slice kH.out; subst zN))); go_ret; exact ⟨zz10, zz8⟩
   rw [if_neg c47] at H; have uZ : (cT == 1) = false := beq_eq_false_iff_ne.mpr c47; have uY : (cT != 1) = true := bne_iff_ne.mpr c47; by_cases c67 : (eX.length : Int) > 0; rotate_left
   ·rw [if_neg c67] at H; exact absurd H (by simp)
   rw [if_pos c67] at H; have QO : decide (0 < (eX.length : Int)) = true := decide_eq_true c67; have QN : decide (0 < eX.length) = true := decide_eq_true (by omega); clear c67; obtain ⟨pA, jX⟩ : ∃ j_ : Int, (wrap64 ((eX.length : Int) - 1)) = j_ := ⟨_, rfl⟩; (replace H : (if 0 ≤ (pA) then (if (pA) < (eX.length : Int) then (some ((Int.tmod (rd eX (pA)) cT) == 0)) else (none)) else (none)) = some r := by first | (rw [jX] at H; exact H) | (simp only [jX] at H ⊢; exact H)); (try rw [jX] at A27); (try rw [jX] at A28); (try rw [jX] at A30); (try rw [jX] at A31); (try rw [jX] at A32); (try rw [jX] at A33); (try rw [jX] at A34); (try rw [jX] at A40); (try rw [jX] at A42); (try rw [jX] at A44); have LP : (IntKind.i64.wrap ((eX.length : Int) - 1)) = pA := (i64_w _).trans jX; by_cases c69 : 0 ≤ (pA); rotate_left
   ·rw [if_neg c69] at H; exact absurd H (by simp)
   rw [if_pos c69] at H; have QM := decide_eq_true c69; clear c69; by_cases c70 : (pA) < (eX.length : Int); rotate_left
   ·rw [if_neg c70] at H; exact absurd H (by simp)
   rw [if_pos c70] at H; have QL := decide_eq_true c70; clear c70; obtain rfl := Option.some.inj H; (try go_wp2_with (first | ((with_reducible refine gate_callee (f := 22) rfl ?_); refine goesL_ (some 45) rfl rfl Try.func22 (by kernel_rfl) rfl #[.slice A0 l0.length c0, .int .i64 60] rfl zz3 ?_; (with_reducible refine (spec_MakeNum.calls kj5 _ _ l0 60 fE _ ?side1 ?side2 A27.out).mono ?_); (case side1 => exact zz63); (case side2 => exact HC0.out); rintro e w71 ⟨rfl, hb⟩; refine ⟨_, rfl, ?_⟩; have n_ := zA4 (Kd.R_below zz17 hb) (Kd.R_below zz38 hb) (blk_below (g := cY) (o := .cells #[.int .i64 bH, .slice Ao10 aT.length co10] 30 (0, 0)) zz30 hb) (below_step zz8 hb); clear dM aV aQ HB; obtain ⟨dM, aV, aQ, HB⟩ := n_; clear hb; have IU := zC20 aQ; have IT := zC21 aQ; have G5 := blk_frozen aQ.out 0; have G4 := blk_frozen aQ.out 1) | ((with_reducible refine gate_callee (f := 23) rfl ?_); refine goesL_ (some 51) rfl rfl Try.func23 (by kernel_rfl) rfl #[.agg #[.int .i64 bH, .slice Ao10 aT.length co10], .slice Ao13 bT.length co13, .int .i64 (Int.tmod fE 20)] rfl zz3 ?_; (with_reducible refine (impl_TimesClass.calls kj5 bH _ _ aT _ _ bT (Int.tmod fE 20) fD true _ ?side1 ?side2 ?side3 ?side4 A28.out).mono ?_); (case side1 => exact zz31); (case side2 => exact (Kd.R_reads' aV.out).2.1); (case side3 => exact zz64); (case side4 => exact (Kd.R_reads' dM.out).2.1); rintro e w73 ⟨v114, rfl, ho0, hb⟩; refine ⟨_, rfl, ?_⟩; have n_ := zA5 (Kd.R_elder' zz17 (Kd.R_base ho0) hb) (Kd.R_below zz38 hb) (Kd.R_lower (Kd.R_new' ho0 (Kd.R_lt zz17)) (below_size zz8)) (blk_below (g := cY) (o := .cells #[.int .i64 bH, .slice Ao10 aT.length co10] 30 (0, 0)) zz30 hb) (below_step zz8 hb); clear dM aV aQ HB; obtain ⟨dM, aV, b7, aQ, HB⟩ := n_; clear ho0 hb))); have n_ := zA5 (Kd.R_drew dM.out) (Kd.R_drew aV.out) (Kd.R_drew b7.out) (blk_drew aQ.out) (below_drew1 HB.out); clear dM aV b7 aQ HB; obtain ⟨dM, aV, b7, aQ, HB⟩ := n_; refine start_ (n := 11) (S := fun w' => w'.cell? ⟨cY, 0, none⟩ = some (.int .i64 bH) ∧ w'.cell? ⟨cY, 1, none⟩ = some (.slice Ao10 aT.length co10)) (ds := []) (zM 11 0) (by kernel_rfl) rfl rfl ⟨(blk_cell aQ.out 0).trans rfl, (blk_cell aQ.out 1).trans rfl⟩ (fun hHeld => ?_); refine with_tabW laws_FnOrders.tab10 laws_FnOrders.bits10 (fun HT_ HW_ => ?_); generalize w73.drew = w74 at dM aV b7 aQ HB hHeld ⊢; refine zQ 1 56 (zM 11 2) ?_
   refine zQ 2 57 (zM 11 6) ?_
   refine zQ 3 58 (zM 11 14) ?_
   refine zQ 4 59 (zM 11 30) ?_
   refine take_ (i := 0) (N := some 55) (v := ?_) (a' := ?_) (zM 11 31) rfl rfl (take_ofW HT_.out HW_.out (by kernel_rfl)) (fun _ _ _ h => h) (Or.inl ⟨by rfl, ?_⟩) hHeld ?_ ?_; rotate_left
   ·rintro w' ⟨s0, s1⟩; exact zzT
   rotate_left
   ·exact zzS
   refine one_ (i := 5) (N := some 60) (zM 11 63) rfl rfl (one_of HT_.out (by kernel_rfl)) (by decide) (fun K hK => ?_); refine goes_ Try.func23 (by kernel_rfl) rfl #[.agg #[.int .i64 bH, .slice Ao10 aT.length co10], .slice Ao13 bT.length co13, .int .i64 (Int.tmod (Int.tmod fE 20) cT)] (by rfl) rfl rfl zz3 ?_; (with_reducible refine (impl_TimesClass.calls kj5 bH _ _ aT _ _ bT (Int.tmod (Int.tmod fE 20) cT) tN true _ ?side1 ?side2 ?side3 ?side4 A30.out).mono ?_); (case side1 => exact zz31); (case side2 => exact (Kd.R_reads' aV.out).2.1); (case side3 => exact zz64); (case side4 => exact (Kd.R_reads' dM.out).2.1); rintro e w75 ⟨v118, rfl, ho0, hb⟩; refine ⟨_, rfl, ?_⟩; have n_ := zA6 (Kd.R_elder' zz17 (Kd.R_base ho0) hb) (Kd.R_below zz38 hb) (Kd.R_elder' zz28 (Kd.R_base ho0) hb) (Kd.R_lower (Kd.R_new' (Kd.R_new' ho0 (Kd.R_lt zz17)) (Kd.R_lt zz28)) (below_size zz8)) (blk_below (g := cY) (o := .cells #[.int .i64 bH, .slice Ao10 aT.length co10] 30 (0, 0)) zz30 hb) (below_step zz8 hb); clear dM aV b7 aQ HB; obtain ⟨dM, aV, b7, d3, aQ, HB⟩ := n_; clear ho0 hb; refine hK.out _ _ ⟨(blk_cell aQ.out 0).trans rfl, (blk_cell aQ.out 1).trans rfl⟩ (fun hHeld => ?_); clear hK K; refine norm_ (a' := ?_) ?_ ?_; rotate_left
   ·show Act.put _ (some 60) _ = _; exact zzS
   refine zQ 6 54 (zM 11 127) ?_
   refine zQ 7 61 (zM 11 255) ?_
   refine zQ 8 62 (zM 11 511) ?_
   refine zQ 9 9 (zM 11 1023) ?_
   refine zQ 10 10 (zM 11 2047) ?_
   refine done_ (done_of HT_.out (by kernel_rfl)) ?_; have wZ := zC20 aQ; have wY := zC21 aQ; have wH := blk_frozen aQ.out 0; have wG := blk_frozen aQ.out 1; (try go_wp2_with (first | ((with_reducible refine gate_callee (f := 23) rfl ?_); refine goesL_ (some 68) rfl rfl Try.func23 (by kernel_rfl) rfl #[.agg #[.int .i64 bH, .slice Ao10 aT.length co10], .slice Ao13 bT.length co13, .int .i64 (wrap64 (-(Int.tmod fE 20)))] rfl zz3 ?_; (with_reducible refine (impl_TimesClass.calls kj5 bH _ _ aT _ _ bT (wrap64 (-(Int.tmod fE 20))) fM true _ ?side1 ?side2 ?side3 ?side4 A31.out).mono ?_); (case side1 => exact zz31); (case side2 => exact (Kd.R_reads' aV.out).2.1); (case side3 => exact zz64); (case side4 => exact (Kd.R_reads' dM.out).2.1); rintro e w77 ⟨v122, rfl, ho0, hb⟩; refine ⟨_, rfl, ?_⟩; have n_ := zA7 (Kd.R_elder' zz17 (Kd.R_base ho0) hb) (Kd.R_below zz38 hb) (Kd.R_elder' zz28 (Kd.R_base ho0) hb) (Kd.R_elder' zz35 (Kd.R_base ho0) hb) (Kd.R_lower (Kd.R_new' (Kd.R_new' (Kd.R_new' ho0 (Kd.R_lt zz17)) (Kd.R_lt zz28)) (Kd.R_lt zz35)) (below_size zz8)) (blk_below (g := cY) (o := .cells #[.int .i64 bH, .slice Ao10 aT.length co10] 30 (0, 0)) zz30 hb) (below_step zz8 hb); clear dM aV b7 d3 aQ HB; obtain ⟨dM, aV, b7, d3, eG, aQ, HB⟩ := n_; clear ho0 hb; have IQ := zC20 aQ; have IP := zC21 aQ; have G1 := blk_frozen aQ.out 0; have G0 := blk_frozen aQ.out 1; obtain ⟨Ao79, co79, M2⟩ := Kd.R_slice b7.out; subst M2) | ((with_reducible refine gate_callee (f := 24) rfl ?_); refine goesL_ (some 74) rfl rfl Try.func24 (by kernel_rfl) rfl #[.agg #[.int .i64 bH, .slice Ao10 aT.length co10], .slice Ao79 fD.length co79] rfl zz3 ?_; (with_reducible refine (impl_InverseClass.calls kj5 bH _ _ aT _ _ fD hP true _ ?side1 ?side2 ?side3 ?side4 A32.out).mono ?_); (case side1 => exact zz31); (case side2 => exact (Kd.R_reads' aV.out).2.1); (case side3 => exact zz87); (case side4 => exact (Kd.R_reads' b7.out).2.1); rintro e w80 ⟨v126, rfl, ho0, hb⟩; refine ⟨_, rfl, ?_⟩; have n_ := zA8 (Kd.R_elder' zz17 (Kd.R_base ho0) hb) (Kd.R_below zz38 hb) (Kd.R_elder' zz28 (Kd.R_base ho0) hb) (Kd.R_elder' zz35 (Kd.R_base ho0) hb) (Kd.R_elder' zz49 (Kd.R_base ho0) hb) (Kd.R_lower (Kd.R_new' (Kd.R_new' (Kd.R_new' (Kd.R_new' ho0 (Kd.R_lt zz17)) (Kd.R_lt zz28)) (Kd.R_lt zz35)) (Kd.R_lt zz49)) (below_size zz8)) (blk_below (g := cY) (o := .cells #[.int .i64 bH, .slice Ao10 aT.length co10] 30 (0, 0)) zz30 hb) (below_step zz8 hb); clear dM aV b7 d3 eG aQ HB; obtain ⟨dM, aV, b7, d3, eG, d6, aQ, HB⟩ := n_; clear ho0 hb; have wX := zC20 aQ; have wW := zC21 aQ; have wF := blk_frozen aQ.out 0; have wE := blk_frozen aQ.out 1) | ((with_reducible refine gate_callee (f := 10) rfl ?_); refine goesL_ (some 78) rfl rfl Try.func10 (by kernel_rfl) rfl #[.agg #[.int .i64 bH, .slice Ao10 aT.length co10]] rfl zz3 ?_; (with_reducible refine (impl_GroupFactors.calls kj5 bH _ _ aT eX _ ?side1 ?side2 A33.out).mono ?_); (case side1 => exact zz31); (case side2 => exact (Kd.R_reads' aV.out).2.1); rintro e w82 ⟨v130, rfl, ho0, hb⟩; refine ⟨_, rfl, ?_⟩; have n_ := zA9 (Kd.R_elder' zz17 (Kd.R_base ho0) hb) (Kd.R_below zz38 hb) (Kd.R_elder' zz28 (Kd.R_base ho0) hb) (Kd.R_elder' zz35 (Kd.R_base ho0) hb) (Kd.R_elder' zz49 (Kd.R_base ho0) hb) (Kd.R_elder' zz48 (Kd.R_base ho0) hb) (Kd.R_lower (Kd.R_new' (Kd.R_new' (Kd.R_new' (Kd.R_new' (Kd.R_new' ho0 (Kd.R_lt zz17)) (Kd.R_lt zz28)) (Kd.R_lt zz35)) (Kd.R_lt zz49)) (Kd.R_lt zz48)) (below_size zz8)) (blk_below (g := cY) (o := .cells #[.int .i64 bH, .slice Ao10 aT.length co10] 30 (0, 0)) zz30 hb) (below_step zz8 hb); clear dM aV b7 d3 eG d6 aQ HB; obtain ⟨dM, aV, b7, d3, eG, d6, kH, aQ, HB⟩ := n_; clear ho0 hb; have wV := zC20 aQ; have wU := zC21 aQ; have wD := blk_frozen aQ.out 0; have wC := blk_frozen aQ.out 1) | ((with_reducible refine gate_callee (f := 25) rfl ?_); refine goesL_ (some 81) rfl rfl Try.func25 (by kernel_rfl) rfl #[.agg #[.int .i64 bH, .slice Ao10 aT.length co10], .int .i64 1, .int .i64 0] rfl zz3 ?_; (with_reducible refine (impl_DifferenceClass.calls kj5 bH _ _ aT 1 0 tM true _ ?side1 ?side2 A34.out).mono ?_); (case side1 => exact zz31); (case side2 => exact (Kd.R_reads' aV.out).2.1); rintro e w84 ⟨v133, rfl, ho0, hb⟩; refine ⟨_, rfl, ?_⟩; have n_ := zA10 (Kd.R_elder' zz17 (Kd.R_base ho0) hb) (Kd.R_below zz38 hb) (Kd.R_elder' zz28 (Kd.R_base ho0) hb) (Kd.R_elder' zz35 (Kd.R_base ho0) hb) (Kd.R_elder' zz49 (Kd.R_base ho0) hb) (Kd.R_elder' zz48 (Kd.R_base ho0) hb) (Kd.R_elder' zz117 (Kd.R_base ho0) hb) (Kd.R_lower (Kd.R_new' (Kd.R_new' (Kd.R_new' (Kd.R_new' (Kd.R_new' (Kd.R_new' ho0 (Kd.R_lt zz17)) (Kd.R_lt zz28)) (Kd.R_lt zz35)) (Kd.R_lt zz49)) (Kd.R_lt zz48)) (Kd.R_lt zz117)) (below_size zz8)) (blk_below (g := cY) (o := .cells #[.int .i64 bH, .slice Ao10 aT.length co10] 30 (0, 0)) zz30 hb) (below_step zz8 hb); clear dM aV b7 d3 eG d6 kH aQ HB; obtain ⟨dM, aV, b7, d3, eG, d6, kH, lJ, aQ, HB⟩ := n_; clear ho0 hb; obtain ⟨Ao85, co85, zK⟩ := Kd.R_slice d3.out; subst zK) | (go_at_call 26; (with_reducible refine (laws_same.calls kj5 _ _ fD _ _ tN true _ ?side1 ?side2 ?side3 ?side4 A40.out).mono ?_); (case side1 => exact zz87); (case side2 => exact (Kd.R_reads' b7.out).2.1); (case side3 => repeat (first | exact (Kd.R_reads' d3.out).2.2 | (with_reducible refine Kd.C_alloc ?_ _) | (with_reducible refine Kd.C_drewN ?_ _) | (with_reducible refine Kd.C_drew ?_))); (case side4 => exact (Kd.R_reads' d3.out).2.1); rintro e w' ⟨rfl, ⟨nd, rfl⟩⟩; obtain ⟨Ao86, co86, M1⟩ := Kd.R_slice eG.out; subst M1; obtain ⟨Ao87, co87, M0⟩ := Kd.R_slice d6.out; subst M0) | (go_at_call 26; (with_reducible refine (laws_same.calls kj5 _ _ fM _ _ hP true _ ?side1 ?side2 ?side3 ?side4 A42.out).mono ?_); (case side1 => repeat (first | exact (Kd.R_reads' eG.out).2.2 | (with_reducible refine Kd.C_alloc ?_ _) | (with_reducible refine Kd.C_drewN ?_ _) | (with_reducible refine Kd.C_drew ?_))); (case side2 => exact (Kd.R_reads' eG.out).2.1); (case side3 => exact zz103); (case side4 => exact (Kd.R_reads' d6.out).2.1); rintro e w' ⟨rfl, ⟨nd, rfl⟩⟩; obtain ⟨Ao88, co88, MZ⟩ := Kd.R_slice lJ.out; subst MZ) | (go_at_call 27; (with_reducible refine (impl_DegreeOf.calls kj5 _ _ tM qK _ ?side1 ?side2 A44.out).mono ?_); (case side1 => repeat (first | exact (Kd.R_reads' lJ.out).2.2 | (with_reducible refine Kd.C_alloc ?_ _) | (with_reducible refine Kd.C_drewN ?_ _) | (with_reducible refine Kd.C_drew ?_))); (case side2 => exact (Kd.R_reads' lJ.out).2.1); rintro e w' ⟨rfl, ⟨nd, rfl⟩⟩; obtain ⟨Ao89, co89, zJ⟩ := Kd.R_slice kH.out; subst zJ; have p139 : 0 ≤ ((pA) : Int) := of_decide_eq_true zz4; have q139 : (pA) < (eX.length : Int) := of_decide_eq_true zz4; obtain ⟨Q3, e139, GH⟩ := Kd.at_int (Kd.R_reads' kH.out).2.2 (pA) p139 q139; cases e139; replace p139 := eq_true p139; replace q139 := eq_true q139))); go_ret; exact ⟨by first | rfl | (simp [errW_none, errW_some] <;> rfl) | (simp only [← jX]; first | rfl | (simp [errW_none, errW_some] <;> rfl)) | (simp [*, errW_none, errW_some] <;> rfl), zz8⟩
def laws_FnOrders.Pure : Prop := ∀ (l0 : List Int), l0.length ≤ maxLen → l0.length * 1 ≤ 140737488351232 → (∀ x ∈ l0, (Lit.int .u8 x).wf = true) → ∃ k, laws_FnOrders.f k l0 = some true
theorem laws_FnOrders.walk (P : laws_FnOrders.Pure) (a0 : Option Addr) (len0 cap0 : Nat) (z0 : List Int) (w : World) (w0 : (a0 = none ∧ len0 = 0 ∧ cap0 = 0 ∧ z0 = []) ∨ ∃ x, a0 = some x ∧ len0 ≤ cap0 ∧ cap0 ≤ maxLen ∧ z0.length = cap0 ∧ (∀ i, i < z0.length → w.cell? (x.add i) = some (.int .u8 (z0.getD i 0))) ∧ ∀ n ∈ z0, (Lit.int .u8 n).wf = true) (y0 : len0 * 1 ≤ 140737488351232) :
  Calls Try.prog 5 #[.slice a0 len0 cap0] w fun e w' => e = .returned (.bool true) ∧ Below w.heap.size w w' := by
 obtain ⟨l0, rfl, hr0, hm0, hw0, hc0⟩ := ReadsInt.ofRowC w0; obtain ⟨k, h⟩ := P l0 hm0 y0 hw0; refine (laws_FnOrders.calls k _ _ l0 true w (Kd.C_of_reads (d := (0 : Int)) (h1 := fun _ => rfl) hr0) hc0 h).mono ?_; rintro e w' ⟨rfl, hd⟩; exact ⟨rfl, hd⟩
end Go.Proofs.Ytkcbinohpdhbgaa.P
end

section
namespace Go.Proofs.Ytkcbinohpdhbgaa.Cf
set_option linter.unusedVariables false
set_option linter.unusedSimpArgs false
def sumN : Nat → (Nat → Int) → Int
 | 0, _ => 0
 | n + 1, f => sumN n f + f n
def sumE (es : List E) (f : E → Int) : Int := (es.map f).sum
theorem sumE_nil (f : E → Int) : sumE [] f = 0 := rfl
theorem sumE_cons (e : E) (r : List E) (f : E → Int) : sumE (e :: r) f = f e + sumE r f := by simp [sumE]
theorem sumN_congr {n : Nat} {f g : Nat → Int} (h : ∀ i, i < n → f i = g i) : sumN n f = sumN n g := by
 induction n with
 | zero => rfl
 | succ n ih => simp only [sumN]; rw [ih (fun i hi => h i (by omega)), h n (by omega)]
theorem sumN_le {n : Nat} {f g : Nat → Int} (h : ∀ i, i < n → f i ≤ g i) : sumN n f ≤ sumN n g := by
 induction n with
 | zero => exact Int.le_refl _
 | succ n ih =>
  simp only [sumN]
  have := ih (fun i hi => h i (by omega))
  have := h n (by omega)
  omega
theorem sumN_add (n : Nat) (f g : Nat → Int) : sumN n (fun i => f i + g i) = sumN n f + sumN n g := by
 induction n with
 | zero => rfl
 | succ n ih => simp only [sumN]; rw [ih]; omega
theorem sumN_zero (n : Nat) : sumN n (fun _ => 0) = 0 := by
 induction n with
 | zero => rfl
 | succ n ih => simp only [sumN]; rw [ih]; rfl
theorem sumN_const (n : Nat) (c : Int) : sumN n (fun _ => c) = n * c := by
 induction n with
 | zero => simp [sumN]
 | succ n ih => simp only [sumN]; rw [ih]; rw [Int.natCast_succ, Int.add_mul]; omega
theorem sumN_one {n : Nat} (k : Nat) (hk : k < n) (c : Int) : sumN n (fun i => if i = k then c else 0) = c := by
 induction n with
 | zero => omega
 | succ n ih =>
  simp only [sumN]
  by_cases h : n = k
  ·subst h
   rw [if_pos rfl, sumN_congr (g := fun _ => 0) (fun i hi => by rw [if_neg (by omega)]), sumN_zero]
   omega
  ·rw [ih (by omega), if_neg h]
   omega
theorem sumN_pos_term {n : Nat} {f : Nat → Int} (h : ∀ i, i < n → 0 ≤ f i) (k : Nat) (hk : k < n) : f k ≤ sumN n f := by
 induction n with
 | zero => omega
 | succ n ih =>
  simp only [sumN]
  have h0 : 0 ≤ sumN n f := by
   have := sumN_le (n := n) (f := fun _ => 0) (g := f) (fun i hi => h i (by omega))
   rw [sumN_zero] at this
   exact this
  by_cases e : k = n
  ·subst e; omega
  ·have := ih (fun i hi => h i (by omega)) (by omega)
   have := h n (by omega)
   omega
theorem sumE_congr {es : List E} {f g : E → Int} (h : ∀ e ∈ es, f e = g e) : sumE es f = sumE es g := by
 unfold sumE
 rw [List.map_congr_left h]
theorem sumE_add (es : List E) (f g : E → Int) : sumE es (fun e => f e + g e) = sumE es f + sumE es g := by
 induction es with
 | nil => rfl
 | cons e r ih => rw [sumE_cons, sumE_cons, sumE_cons, ih]; omega
theorem sumE_le {es : List E} {f g : E → Int} (h : ∀ e ∈ es, f e ≤ g e) : sumE es f ≤ sumE es g := by
 induction es with
 | nil => exact Int.le_refl _
 | cons e r ih =>
  rw [sumE_cons, sumE_cons]
  have := ih (fun x hx => h x (List.mem_cons_of_mem _ hx))
  have := h e List.mem_cons_self
  omega
theorem sumE_zero {es : List E} {f : E → Int} (h : ∀ e ∈ es, f e = 0) : sumE es f = 0 := by
 induction es with
 | nil => rfl
 | cons e r ih => rw [sumE_cons, ih (fun x hx => h x (List.mem_cons_of_mem _ hx)), h e List.mem_cons_self]; rfl
theorem sumE_nonneg {es : List E} {f : E → Int} (h : ∀ e ∈ es, 0 ≤ f e) : 0 ≤ sumE es f := by
 have := sumE_le (es := es) (f := fun _ => 0) (g := f) h
 rw [sumE_zero (fun _ _ => rfl)] at this
 exact this
theorem sumE_term {es : List E} {f : E → Int} (h : ∀ e ∈ es, 0 ≤ f e) {e : E} (he : e ∈ es) : f e ≤ sumE es f := by
 induction es with
 | nil => cases he
 | cons a r ih =>
  rw [sumE_cons]
  have h0 := sumE_nonneg (fun x hx => h x (List.mem_cons_of_mem a hx))
  rcases List.mem_cons.1 he with rfl | he
  ·omega
  ·have := ih (fun x hx => h x (List.mem_cons_of_mem _ hx)) he
   have := h a List.mem_cons_self
   omega
theorem sumE_neg (es : List E) (f : E → Int) : sumE es (fun e => - f e) = - sumE es f := by
 induction es with
 | nil => rfl
 | cons e r ih => rw [sumE_cons, sumE_cons, ih]; omega
theorem sumE_mul (es : List E) (c : Int) (f : E → Int) : sumE es (fun e => c * f e) = c * sumE es f := by
 induction es with
 | nil => simp [sumE]
 | cons e r ih => rw [sumE_cons, sumE_cons, ih, Int.mul_add]
def lapE (s : Int → Int) (w : Int) (e : E) : Int := (if e.f0 = w then s e.f0 - s e.f1 else 0) + (if e.f1 = w then s e.f1 - s e.f0 else 0)
def lap (es : List E) (s : Int → Int) (w : Int) : Int := sumE es (lapE s w)
def ind (P : Int → Bool) (v : Int) : Int := if P v then 1 else 0
def one (v : Int) (t : Int) (w : Int) : Int := if w = v then t else 0
theorem lap_nil (s : Int → Int) (w : Int) : lap [] s w = 0 := rfl
theorem lap_cons (e : E) (r : List E) (s : Int → Int) (w : Int) : lap (e :: r) s w = lapE s w e + lap r s w := sumE_cons _ _ _
theorem lap_add (es : List E) (s t : Int → Int) (w : Int) : lap es (fun v => s v + t v) w = lap es s w + lap es t w := by
 unfold lap
 rw [← sumE_add]
 apply sumE_congr
 intro e _
 simp only [lapE]
 split <;> split <;> omega
theorem lap_neg (es : List E) (s : Int → Int) (w : Int) : lap es (fun v => - s v) w = - lap es s w := by
 unfold lap
 rw [← sumE_neg]
 apply sumE_congr
 intro e _
 simp only [lapE]
 split <;> split <;> omega
theorem lap_sub (es : List E) (s t : Int → Int) (w : Int) : lap es (fun v => s v - t v) w = lap es s w - lap es t w := by
 have := lap_add es s (fun v => - t v) w
 rw [lap_neg] at this
 rw [show (fun v => s v - t v) = (fun v => s v + - t v) from funext fun v => by omega, this]
 omega
theorem lap_congr {n : Int} {es : List E} (hes : ∀ e ∈ es, EOk n e) {s t : Int → Int} (h : ∀ v, 0 ≤ v → v < n → s v = t v) (w : Int) : lap es s w = lap es t w := by
 apply sumE_congr
 intro e he
 have hk := hes e he
 unfold EOk at hk
 unfold lapE
 rw [h e.f0 (by omega) (by omega), h e.f1 (by omega) (by omega)]
theorem lap_const {es : List E} {s : Int → Int} {c : Int} (h : ∀ e ∈ es, s e.f0 = c ∧ s e.f1 = c) (w : Int) : lap es s w = 0 := by
 apply sumE_zero
 intro e he
 unfold lapE
 rw [(h e he).1, (h e he).2]
 split <;> split <;> omega
theorem dirichlet {n : Nat} {es : List E} (hes : ∀ e ∈ es, EOk n e) (f s : Int → Int) : sumN n (fun i => f i * lap es s i) = sumE es (fun e => (f e.f0 - f e.f1) * (s e.f0 - s e.f1)) := by
 induction es with
 | nil => simp only [lap_nil, Int.mul_zero]; rw [sumN_zero]; rfl
 | cons e r ih =>
  have hk := hes e List.mem_cons_self
  unfold EOk at hk
  rw [sumE_cons, ← ih (fun x hx => hes x (List.mem_cons_of_mem _ hx))]
  have h1 : sumN n (fun i => f i * lap (e :: r) s i) = sumN n (fun i => f i * lapE s i e) + sumN n (fun i => f i * lap r s i) := by
   rw [← sumN_add]
   apply sumN_congr
   intro i _
   rw [lap_cons, Int.mul_add]
  rw [h1]
  congr 1
  have h2 : sumN n (fun i => f i * lapE s i e) = sumN n (fun i => if i = e.f0.toNat then f e.f0 * (s e.f0 - s e.f1) else 0) + sumN n (fun i => if i = e.f1.toNat then f e.f1 * (s e.f1 - s e.f0) else 0) := by
   rw [← sumN_add]
   apply sumN_congr
   intro i _
   unfold lapE
   have c0 : (e.f0 = (i : Int)) ↔ (i = e.f0.toNat) := by omega
   have c1 : (e.f1 = (i : Int)) ↔ (i = e.f1.toNat) := by omega
   rw [Int.mul_add]
   congr 1
   ·by_cases h : e.f0 = (i : Int)
    ·rw [if_pos h, if_pos (c0.1 h), h]
    ·rw [if_neg h, if_neg (fun x => h (c0.2 x)), Int.mul_zero]
   ·by_cases h : e.f1 = (i : Int)
    ·rw [if_pos h, if_pos (c1.1 h), h]
    ·rw [if_neg h, if_neg (fun x => h (c1.2 x)), Int.mul_zero]
  rw [h2, sumN_one _ (by omega), sumN_one _ (by omega)]
  rw [show s e.f1 - s e.f0 = -(s e.f0 - s e.f1) by omega, Int.mul_neg, Int.sub_mul]
  omega
theorem lap_sum {n : Nat} {es : List E} (hes : ∀ e ∈ es, EOk n e) (s : Int → Int) : sumN n (fun i => lap es s i) = 0 := by
 have := dirichlet hes (fun _ => 1) s
 simp only [Int.one_mul, Int.sub_self, Int.zero_mul] at this
 rw [this]
 exact sumE_zero (fun _ _ => rfl)
def Red (n : Nat) (es : List E) (q : Int) (d : Int → Int) : Prop :=
 (∀ v : Int, 0 ≤ v → v < n → v ≠ q → 0 ≤ d v) ∧ ∀ S : Int → Bool, S q = false → (∃ v : Int, 0 ≤ v ∧ v < n ∧ S v = true) → ∃ v : Int, 0 ≤ v ∧ v < n ∧ S v = true ∧ d v < lap es (ind S) v
theorem exists_max {n : Nat} (h : 0 < n) (s : Int → Int) : ∃ m : Nat, m < n ∧ ∀ v : Int, 0 ≤ v → v < n → s v ≤ s m := by
 induction n with
 | zero => omega
 | succ n ih =>
  by_cases h0 : n = 0
  ·subst h0
   exact ⟨0, by omega, fun v h1 h2 => by rw [show v = ((0 : Nat) : Int) by omega]; exact Int.le_refl _⟩
  ·obtain ⟨m, hm, hmax⟩ := ih (by omega)
   by_cases hc : s m ≤ s n
   ·refine ⟨n, by omega, fun v h1 h2 => ?_⟩
    by_cases e : v = n
    ·subst e; exact Int.le_refl _
    ·have := hmax v h1 (by omega)
     omega
   ·refine ⟨m, by omega, fun v h1 h2 => ?_⟩
    by_cases e : v = n
    ·subst e; omega
    ·exact hmax v h1 (by omega)
theorem lap_max {n : Int} {es : List E} (hes : ∀ e ∈ es, EOk n e) {s : Int → Int} {M : Int} (hM : ∀ v, 0 ≤ v → v < n → s v ≤ M) {v : Int} (hv : s v = M) : lap es (ind (fun x => decide (s x = M))) v ≤ lap es s v := by
 apply sumE_le
 intro e he
 have hk := hes e he
 unfold EOk at hk
 have h0 := hM e.f0 (by omega) (by omega)
 have h1 := hM e.f1 (by omega) (by omega)
 unfold lapE ind
 by_cases a : e.f0 = v
 ·have a' : s e.f0 = M := by rw [a]; exact hv
  have b : ¬ e.f1 = v := by omega
  rw [if_pos a, if_pos a, if_neg b, if_neg b]
  by_cases c : s e.f1 = M
  ·simp [a', c]
  ·simp [a', c]; omega
 ·rw [if_neg a, if_neg a]
  by_cases b : e.f1 = v
  ·have b' : s e.f1 = M := by rw [b]; exact hv
   rw [if_pos b, if_pos b]
   by_cases c : s e.f0 = M
   ·simp [b', c]
   ·simp [b', c]; omega
  ·rw [if_neg b, if_neg b]
   exact Int.le_refl _
theorem red_max {n : Nat} {es : List E} (hes : ∀ e ∈ es, EOk n e) {q : Int} (hq : 0 ≤ q ∧ q < n) {d d' s : Int → Int} (hd : Red n es q d) (hd' : ∀ v : Int, 0 ≤ v → v < n → v ≠ q → 0 ≤ d' v) (hs : ∀ v : Int, 0 ≤ v → v < n → d' v = d v - lap es s v) : ∀ v : Int, 0 ≤ v → v < n → s v ≤ s q := by
 obtain ⟨m, hm, hmax⟩ := exists_max (n := n) (by omega) s
 by_cases hc : s m ≤ s q
 ·intro v h1 h2
  have := hmax v h1 h2
  omega
 ·exfalso
  obtain ⟨v, h1, h2, hS, hlt⟩ := hd.2 (fun x => decide (s x = s m)) (by simp; omega) ⟨m, by omega, by omega, by simp⟩
  have hv : s v = s m := by simpa using hS
  have hle := lap_max hes hmax hv
  have hvq : v ≠ q := by rintro rfl; omega
  have := hd' v h1 h2 hvq
  rw [hs v h1 h2] at this
  omega
theorem red_unique {n : Nat} {es : List E} (hes : ∀ e ∈ es, EOk n e) {q : Int} (hq : 0 ≤ q ∧ q < n) {d d' s : Int → Int} (hd : Red n es q d) (hd' : Red n es q d') (hs : ∀ v : Int, 0 ≤ v → v < n → d' v = d v - lap es s v) :
  (∀ v : Int, 0 ≤ v → v < n → s v = s q) ∧ ∀ v : Int, 0 ≤ v → v < n → d' v = d v := by
 have h1 := red_max hes hq hd hd'.1 hs
 have h2 := red_max (s := fun v => - s v) hes hq hd' hd.1 (fun v a b => by rw [lap_neg, hs v a b]; omega)
 have hc : ∀ v : Int, 0 ≤ v → v < n → s v = s q := fun v a b => by
  have := h1 v a b
  have := h2 v a b
  omega
 refine ⟨hc, fun v a b => ?_⟩
 rw [hs v a b, lap_const (c := s q) (fun e he => ?_)]
 ·omega
 ·have hk := hes e he
  unfold EOk at hk
  exact ⟨hc _ (by omega) (by omega), hc _ (by omega) (by omega)⟩
theorem cut_le {n : Nat} {es : List E} (hes : ∀ e ∈ es, EOk n e) {s : Int → Int} {t C : Int} (hC : sumN n (fun i => ind (fun v => decide (t ≤ s v)) i * lap es s i) ≤ C) {a b : Int} (hab : Adj es a b) (ha : t ≤ s a) (hb : s b < t) : s a - s b ≤ C := by
 rw [dirichlet hes] at hC
 obtain ⟨e, he, hx⟩ := hab
 have hnn : ∀ e ∈ es, 0 ≤ (ind (fun v => decide (t ≤ s v)) e.f0 - ind (fun v => decide (t ≤ s v)) e.f1) * (s e.f0 - s e.f1) := by
  intro e _
  unfold ind
  by_cases h0 : t ≤ s e.f0 <;> by_cases h1 : t ≤ s e.f1 <;> simp [h0, h1] <;> omega
 have h1 := sumE_term hnn he
 have h2 : s a - s b ≤ (ind (fun v => decide (t ≤ s v)) e.f0 - ind (fun v => decide (t ≤ s v)) e.f1) * (s e.f0 - s e.f1) := by
  unfold ind
  rcases hx with ⟨x0, x1⟩ | ⟨x0, x1⟩
  ·subst x0; subst x1
   have h1 : ¬ t ≤ s e.f1 := by omega
   simp [ha, h1]
  ·subst x0; subst x1
   have h1 : ¬ t ≤ s e.f0 := by omega
   simp [ha, h1]
   omega
 omega
theorem exists_cut {es : List E} {S : Int → Prop} {a b : Int} (hab : Conn es a b) (ha : ¬ S a) (hb : S b) : ∃ u w, Adj es u w ∧ S u ∧ ¬ S w := by
 induction hab with
 | refl => exact absurd hb ha
 | @tail x y _ hadj ih =>
  by_cases hx : S x
  ·exact ih hx
  ·exact ⟨y, x, hadj.symm, hb, hx⟩
def below (n : Nat) (s : Int → Int) (t : Int) : Nat := (List.range n).countP (fun i => decide (s (i : Nat) < t))
theorem script_le {n : Nat} {es : List E} (hes : ∀ e ∈ es, EOk n e) (hj : Joined n es) {q : Int} (hq : 0 ≤ q ∧ q < n) {s : Int → Int} {C : Int} (hC0 : 0 ≤ C) (hsq : s q ≤ 0)
  (hC : ∀ t : Int, 0 < t → sumN n (fun i => ind (fun v => decide (t ≤ s v)) i * lap es s i) ≤ C) : ∀ v : Int, 0 ≤ v → v < n → s v ≤ n * C := by
 have key : ∀ k : Nat, ∀ v : Int, 0 ≤ v → v < n → below n s (s v) ≤ k → s v ≤ k * C := by
  intro k
  induction k with
  | zero =>
   intro v h0 h1 hk
   apply Classical.byContradiction
   intro hc
   have hpos : 0 < below n s (s v) := by
    unfold below
    rw [List.countP_pos_iff]
    refine ⟨q.toNat, List.mem_range.2 (by omega), ?_⟩
    have : ((q.toNat : Nat) : Int) = q := by omega
    rw [this]
    simp
    omega
   omega
  | succ k ih =>
   intro v h0 h1 hk
   by_cases hpos : s v ≤ 0
   ·have : 0 ≤ ((k + 1 : Nat) : Int) * C := Int.mul_nonneg (by omega) hC0
    omega
   ·have hqv : Conn es q v := ((hj q hq.1 hq.2).symm).trans (hj v h0 h1)
    obtain ⟨u, w, hadj, hu, hw⟩ := exists_cut (S := fun x => s v ≤ s x) hqv (by omega) (Int.le_refl _)
    have hcut := cut_le hes (hC (s v) (by omega)) hadj hu (by omega)
    have hw0 := EsOk.adj hes hadj
    have hlt : below n s (s w) < below n s (s v) := by
     refine countP_lt (fun x _ hx => ?_) ⟨w.toNat, List.mem_range.2 (by omega), ?_, ?_⟩
     ·simp only [decide_eq_true_eq] at hx ⊢
      omega
     ·have : ((w.toNat : Nat) : Int) = w := by omega
      rw [this]; simp
     ·have : ((w.toNat : Nat) : Int) = w := by omega
      rw [this]; simp; omega
    have := ih w hw0.1 hw0.2 (by omega)
    rw [Int.natCast_succ, Int.add_mul, Int.one_mul]
    omega
 intro v h0 h1
 refine key n v h0 h1 ?_
 have := List.countP_le_length (p := fun i => decide (s ((i : Nat) : Int) < s v)) (l := List.range n)
 rw [List.length_range] at this
 exact this
theorem script_bd {n : Nat} {es : List E} (hes : ∀ e ∈ es, EOk n e) (hj : Joined n es) {q : Int} (hq : 0 ≤ q ∧ q < n) {s : Int → Int} {c : Int} (hc : 0 ≤ c) (hsq : s q ≤ 0)
  (h : ∀ v : Int, 0 ≤ v → v < n → 0 < s v → lap es s v ≤ c) : ∀ v : Int, 0 ≤ v → v < n → s v ≤ n * (n * c) := by
 refine script_le hes hj hq (Int.mul_nonneg (by omega) hc) hsq ?_
 intro t ht
 rw [← sumN_const]
 apply sumN_le
 intro i hi
 unfold ind
 by_cases hx : t ≤ s i
 ·simp only [hx, decide_true, if_true, Int.one_mul]
  exact h i (by omega) (by omega) (by omega)
 ·simp only [hx, decide_false, Int.zero_mul, Bool.false_eq_true, if_false]
  exact hc
def valE (v : Int) (e : E) : Int := if e.f0 = v ∨ e.f1 = v then 1 else 0
def val (es : List E) (v : Int) : Int := sumE es (valE v)
def multE (a b : Int) (e : E) : Int := if (e.f0 = a ∧ e.f1 = b) ∨ (e.f0 = b ∧ e.f1 = a) then 1 else 0
def mult (es : List E) (a b : Int) : Int := sumE es (multE a b)
theorem val_nonneg (es : List E) (v : Int) : 0 ≤ val es v := sumE_nonneg fun e _ => by unfold valE; split <;> omega
theorem mult_nonneg (es : List E) (a b : Int) : 0 ≤ mult es a b := sumE_nonneg fun e _ => by unfold multE; split <;> omega
theorem sumE_len {es : List E} {f : E → Int} (h : ∀ e ∈ es, f e ≤ 1) : sumE es f ≤ es.length := by
 induction es with
 | nil => simp [sumE]
 | cons e r ih =>
  rw [sumE_cons]
  have := ih (fun x hx => h x (List.mem_cons_of_mem _ hx))
  have := h e List.mem_cons_self
  simp only [List.length_cons]
  omega
theorem val_le (es : List E) (v : Int) : val es v ≤ es.length := sumE_len fun e _ => by unfold valE; split <;> omega
theorem mult_le (es : List E) (a b : Int) : mult es a b ≤ es.length := sumE_len fun e _ => by unfold multE; split <;> omega
theorem mult_symm (es : List E) (a b : Int) : mult es a b = mult es b a := by
 apply sumE_congr
 intro e _
 unfold multE
 simp only [Or.comm]
theorem lap_one_self {n : Int} {es : List E} (hes : ∀ e ∈ es, EOk n e) (v t : Int) : lap es (one v t) v = t * val es v := by
 unfold lap val
 rw [← sumE_mul]
 apply sumE_congr
 intro e he
 have hk := hes e he
 unfold EOk at hk
 unfold lapE valE one
 by_cases a : e.f0 = v
 ·have b : ¬ e.f1 = v := by omega
  simp [a, b]
 ·by_cases b : e.f1 = v
  ·simp [a, b]
  ·simp [a, b]
theorem lap_one_ne {n : Int} {es : List E} (hes : ∀ e ∈ es, EOk n e) {v w : Int} (hvw : w ≠ v) (t : Int) : lap es (one v t) w = - (t * mult es v w) := by
 unfold lap mult
 rw [← sumE_mul, ← sumE_neg]
 apply sumE_congr
 intro e he
 have hk := hes e he
 unfold EOk at hk
 unfold lapE multE one
 by_cases a : e.f0 = w
 ·have b : ¬ e.f1 = w := by omega
  have c : ¬ e.f0 = v := by omega
  by_cases x : e.f1 = v
  ·simp [a, x]; omega
  ·simp [a, b, x, hvw]
 ·by_cases b : e.f1 = w
  ·have c : ¬ e.f1 = v := by omega
   by_cases x : e.f0 = v
   ·simp [a, b, x]; omega
   ·simp [a, b, x, hvw]
  ·simp [a, b]
theorem val_pos {n : Nat} {es : List E} (hj : Joined n es) {q v : Int} (hq : 0 ≤ q ∧ q < n) (hv : 0 ≤ v ∧ v < n) (hne : v ≠ q) : 0 < val es v := by
 have hc : Conn es q v := ((hj q hq.1 hq.2).symm).trans (hj v hv.1 hv.2)
 obtain ⟨u, w, ⟨e, he, hx⟩, hu, hw⟩ := exists_cut (S := fun x => x = v) hc (fun h => hne h.symm) rfl
 subst hu
 have h1 := sumE_term (f := valE u) (fun e _ => by unfold valE; split <;> omega) he
 have h2 : valE u e = 1 := by
  unfold valE
  rw [if_pos]
  rcases hx with ⟨a, _⟩ | ⟨_, b⟩
  ·exact .inl a
  ·exact .inr b
 unfold val
 omega
inductive Legal (n : Nat) (es : List E) (q : Int) (p : Int → Int) : (Int → Int) → Prop
 | zero : Legal n es q p (fun _ => 0)
 | step {s : Int → Int} {v : Int} : Legal n es q p s → 0 ≤ v → v < n → v ≠ q → val es v ≤ p v - lap es s v → Legal n es q p (fun w => s w + one v 1 w)
def Stable (n : Nat) (es : List E) (q : Int) (d : Int → Int) : Prop := ∀ v : Int, 0 ≤ v → v < n → v ≠ q → d v < val es v
theorem lap_le_zero {es : List E} {r : Int → Int} {v : Int} (h : ∀ w, 0 ≤ r w) (hv : r v = 0) : lap es r v ≤ 0 := by
 have := sumE_le (es := es) (f := lapE r v) (g := fun _ => 0) (fun e _ => by
  unfold lapE
  have h0 := h e.f0
  have h1 := h e.f1
  by_cases a : e.f0 = v
  ·by_cases b : e.f1 = v
   ·simp [a, b]
   ·rw [if_pos a, if_neg b, a, hv]; omega
  ·by_cases b : e.f1 = v
   ·rw [if_neg a, if_pos b, b, hv]; omega
   ·rw [if_neg a, if_neg b]; omega)
 rw [sumE_zero (fun _ _ => rfl)] at this
 exact this
theorem Legal.nonneg {n : Nat} {es : List E} {q : Int} {p s : Int → Int} (h : Legal n es q p s) : (∀ w, 0 ≤ s w) ∧ s q = 0 := by
 induction h with
 | zero => exact ⟨fun _ => Int.le_refl _, rfl⟩
 | @step s v _ _ _ hq _ ih =>
  refine ⟨fun w => ?_, ?_⟩
  ·have := ih.1 w
   show 0 ≤ s w + one v 1 w
   unfold one
   split <;> omega
  ·have := ih.2
   show s q + one v 1 q = 0
   unfold one
   rw [if_neg (fun x : q = v => hq x.symm)]
   omega
theorem Legal.least {n : Nat} {es : List E} {q : Int} {p s t : Int → Int} (h : Legal n es q p s) (ht : ∀ w, 0 ≤ t w) (hst : Stable n es q (fun v => p v - lap es t v)) : ∀ w, s w ≤ t w := by
 induction h with
 | zero => exact ht
 | @step s v _ h0 h1 hq hv ih =>
  intro w
  show s w + one v 1 w ≤ t w
  unfold one
  by_cases e : w = v
  ·subst e
   rw [if_pos rfl]
   have := ih w
   by_cases hlt : s w < t w
   ·omega
   ·exfalso
    have hle := lap_le_zero (es := es) (r := fun x => t x - s x) (v := w) (fun x => by have := ih x; omega) (by omega)
    rw [lap_sub] at hle
    have := hst w h0 h1 hq
    simp only at this
    omega
  ·rw [if_neg e]
   have := ih w
   omega
theorem Legal.unique {n : Nat} {es : List E} {q : Int} {p s t : Int → Int} (hs : Legal n es q p s) (ht : Legal n es q p t) (ss : Stable n es q (fun v => p v - lap es s v)) (st : Stable n es q (fun v => p v - lap es t v)) : s = t := by
 funext w
 have := hs.least ht.nonneg.1 st w
 have := ht.least hs.nonneg.1 ss w
 omega
theorem Legal.many {n : Nat} {es : List E} (hes : ∀ e ∈ es, EOk n e) {q : Int} {p s : Int → Int} (h : Legal n es q p s) {v : Int} (h0 : 0 ≤ v) (h1 : v < n) (hq : v ≠ q) : ∀ k : Nat, k * val es v ≤ p v - lap es s v → Legal n es q p (fun w => s w + one v k w)
 | 0, _ => by
  have : (fun w => s w + one v ((0 : Nat) : Int) w) = s := by
   funext w
   unfold one
   split <;> simp
  rw [this]
  exact h
 | k + 1, hk => by
  have hv := val_nonneg es v
  rw [Int.natCast_succ, Int.add_mul] at hk
  have ih := Legal.many hes h h0 h1 hq k (by omega)
  have := Legal.step ih h0 h1 hq (by
   rw [lap_add, lap_one_self hes]
   omega)
  have e : (fun w => s w + one v ((k + 1 : Nat) : Int) w) = fun w => s w + one v (k : Int) w + one v 1 w := by
   funext w
   unfold one
   split <;> omega
  rw [e]
  exact this
theorem leE_trans {a b c : E} (h : leE a b) (k : leE b c) : leE a c := by
 unfold leE at *
 omega
theorem sorted_of_pw {es : List E} (h : es.Pairwise leE) : Sorted es := fun i hi => by
 rw [List.pairwise_iff_getElem] at h
 exact h i (i + 1) (by omega) hi (by omega)
theorem pw_of_sorted : ∀ {es : List E}, Sorted es → es.Pairwise leE
 | [], _ => List.Pairwise.nil
 | a :: r, h => by
  have hr : Sorted r := fun i hi => h (i + 1) (by simpa using hi)
  have ih := pw_of_sorted hr
  refine List.Pairwise.cons (fun b hb => ?_) ih
  cases r with
  | nil => cases hb
  | cons c s =>
   have h0 : leE a c := h 0 (by simp)
   rcases List.mem_cons.1 hb with rfl | hb
   ·exact h0
   ·exact leE_trans h0 (List.rel_of_pairwise_cons ih hb)
def insE (e : E) : List E → List E
 | [] => [e]
 | x :: r => if x.f0 > e.f0 ∨ (x.f0 = e.f0 ∧ x.f1 > e.f1) then e :: x :: r else x :: insE e r
theorem insE_mem {e y : E} : ∀ {l : List E}, y ∈ insE e l ↔ y = e ∨ y ∈ l
 | [] => by simp [insE]
 | x :: r => by
  unfold insE
  split
  ·simp
  ·rw [List.mem_cons, insE_mem (l := r), List.mem_cons]
   constructor
   ·rintro (h | h | h)
    ·exact .inr (.inl h)
    ·exact .inl h
    ·exact .inr (.inr h)
   ·rintro (h | h | h)
    ·exact .inr (.inl h)
    ·exact .inl h
    ·exact .inr (.inr h)
theorem insE_len (e : E) : ∀ (l : List E), (insE e l).length = l.length + 1
 | [] => rfl
 | x :: r => by
  unfold insE
  split
  ·simp
  ·simp [insE_len e r]
theorem insE_pw {e : E} : ∀ {l : List E}, l.Pairwise leE → (insE e l).Pairwise leE
 | [], _ => by simp [insE]
 | x :: r, h => by
  unfold insE
  have hx := List.pairwise_cons.1 h
  split
  ·rename_i hc
   refine List.Pairwise.cons (fun b hb => ?_) h
   have h1 : leE e x := by unfold leE; omega
   rcases List.mem_cons.1 hb with rfl | hb
   ·exact h1
   ·exact leE_trans h1 (hx.1 b hb)
  ·rename_i hc
   refine List.Pairwise.cons (fun b hb => ?_) (insE_pw hx.2)
   rcases insE_mem.1 hb with rfl | hb
   ·unfold leE; omega
   ·exact hx.1 b hb
theorem gOk_ins {n : Int} {es : List E} (h : GOk n es) (hl : es.length ≠ 12) {e : E} (he : EOk n e) : GOk n (insE e es) := by
 obtain ⟨⟨h1, h2, h3, h4⟩, h5, h6⟩ := h
 refine ⟨⟨h1, h2, by rw [insE_len]; omega, fun x hx => ?_⟩, sorted_of_pw (insE_pw (pw_of_sorted h5)), fun v h0 h1 => (h6 v h0 h1).sub fun x hx => insE_mem.2 (.inr hx)⟩
 rcases insE_mem.1 hx with rfl | hx
 ·exact he
 ·exact h4 x hx
def hRow (t : List E) (n a : Nat) : List E := (List.range n).flatMap fun b => if a < b then List.replicate (mult t a b).toNat ⟨a, b⟩ else []
def hEdges (n : Nat) (t : List E) : List E := (List.range n).flatMap (hRow t n)
theorem hRow_mem {t : List E} {n a : Nat} {e : E} : e ∈ hRow t n a ↔ ∃ b, b < n ∧ a < b ∧ 0 < mult t a b ∧ e = ⟨a, b⟩ := by
 unfold hRow
 rw [List.mem_flatMap]
 constructor
 ·rintro ⟨b, hb, he⟩
  split at he
  ·rename_i hab
   obtain ⟨h1, h2⟩ := List.mem_replicate.1 he
   exact ⟨b, List.mem_range.1 hb, hab, by omega, h2⟩
  ·cases he
 ·rintro ⟨b, hb, hab, hm, rfl⟩
  refine ⟨b, List.mem_range.2 hb, ?_⟩
  rw [if_pos hab]
  exact List.mem_replicate.2 ⟨by omega, rfl⟩
theorem hEdges_mem {t : List E} {n : Nat} {e : E} : e ∈ hEdges n t ↔ ∃ a b : Nat, a < b ∧ b < n ∧ 0 < mult t a b ∧ e = ⟨a, b⟩ := by
 unfold hEdges
 rw [List.mem_flatMap]
 constructor
 ·rintro ⟨a, _, h⟩
  obtain ⟨b, h1, h2, h3, h4⟩ := hRow_mem.1 h
  exact ⟨a, b, h2, h1, h3, h4⟩
 ·rintro ⟨a, b, h1, h2, h3, h4⟩
  exact ⟨a, List.mem_range.2 (by omega), hRow_mem.2 ⟨b, h2, h1, h3, h4⟩⟩
theorem hEdges_ok {t : List E} {n : Nat} : ∀ e ∈ hEdges n t, EOk (n : Int) e := by
 intro e he
 obtain ⟨a, b, h1, h2, _, rfl⟩ := hEdges_mem.1 he
 unfold EOk
 simp only
 omega
theorem hEdges_pw (n : Nat) (t : List E) : (hEdges n t).Pairwise leE := by
 unfold hEdges
 rw [List.pairwise_flatMap]
 refine ⟨fun a _ => ?_, ?_⟩
 ·unfold hRow
  rw [List.pairwise_flatMap]
  refine ⟨fun b _ => ?_, ?_⟩
  ·split
   ·refine List.pairwise_replicate.2 (.inr ?_)
    unfold leE
    simp
   ·exact List.Pairwise.nil
  ·refine List.pairwise_lt_range.imp ?_
   intro b c hbc x hx y hy
   split at hx
   ·split at hy
    ·rw [List.eq_of_mem_replicate hx, List.eq_of_mem_replicate hy]
     exact .inr ⟨rfl, by show (b : Int) ≤ (c : Int); omega⟩
    ·cases hy
   ·cases hx
 ·refine List.pairwise_lt_range.imp ?_
  intro a c hac x hx y hy
  obtain ⟨_, _, _, _, rfl⟩ := hRow_mem.1 hx
  obtain ⟨_, _, _, _, rfl⟩ := hRow_mem.1 hy
  unfold leE
  simp only
  omega
theorem len_flatMap (f : Nat → List E) : ∀ n : Nat, (((List.range n).flatMap f).length : Int) = sumN n (fun i => ((f i).length : Int))
 | 0 => rfl
 | n + 1 => by
  rw [List.range_succ, List.flatMap_append, List.length_append]
  simp only [sumN, List.flatMap_cons, List.flatMap_nil, List.append_nil]
  rw [← len_flatMap f n]
  omega
theorem hEdges_len {n : Nat} : ∀ {t : List E}, (∀ e ∈ t, EOk (n : Int) e) → (hEdges n t).length = t.length := by
 have key : ∀ t : List E, ((hEdges n t).length : Int) = sumN n (fun a => sumN n (fun b => if a < b then mult t (a : Int) (b : Int) else 0)) := by
  intro t
  unfold hEdges
  rw [len_flatMap]
  apply sumN_congr
  intro a _
  unfold hRow
  rw [len_flatMap]
  apply sumN_congr
  intro b _
  have := mult_nonneg t (a : Int) (b : Int)
  split
  ·rw [List.length_replicate]; omega
  ·rfl
 intro t
 induction t with
 | nil =>
  intro _
  have := key []
  have hz : sumN n (fun a => sumN n (fun b => if a < b then mult [] (a : Int) (b : Int) else 0)) = 0 := by
   refine (sumN_congr (g := fun _ => 0) fun a _ => ?_).trans (sumN_zero n)
   refine (sumN_congr (g := fun _ => 0) fun b _ => ?_).trans (sumN_zero n)
   split <;> rfl
  rw [hz] at this
  simp only [List.length_nil]
  omega
 | cons e r ih =>
  intro h
  have ih := ih fun x hx => h x (List.mem_cons_of_mem _ hx)
  have he := h e List.mem_cons_self
  unfold EOk at he
  have k1 := key (e :: r)
  have k2 := key r
  have hs : sumN n (fun a => sumN n (fun b => if a < b then mult (e :: r) (a : Int) (b : Int) else 0)) = 1 + sumN n (fun a => sumN n (fun b => if a < b then mult r (a : Int) (b : Int) else 0)) := by
   have h1 : sumN n (fun a => sumN n (fun b => if a = e.f0.toNat ∧ b = e.f1.toNat then (1 : Int) else 0)) = 1 := by
    rw [sumN_congr (g := fun a => if a = e.f0.toNat then (1 : Int) else 0) (fun a _ => ?_), sumN_one e.f0.toNat (by omega)]
    by_cases ha : a = e.f0.toNat
    ·rw [if_pos ha, sumN_congr (g := fun b => if b = e.f1.toNat then (1 : Int) else 0) (fun b _ => by simp [ha]), sumN_one e.f1.toNat (by omega)]
    ·rw [if_neg ha, sumN_congr (g := fun _ => (0 : Int)) (fun b _ => by rw [if_neg (fun x => ha x.1)]), sumN_zero]
   rw [← h1, ← sumN_add]
   apply sumN_congr
   intro a _
   rw [← sumN_add]
   apply sumN_congr
   intro b _
   have hm : mult (e :: r) (a : Int) (b : Int) = multE (a : Int) (b : Int) e + mult r (a : Int) (b : Int) := sumE_cons _ _ _
   rw [hm]
   unfold multE
   by_cases hab : a < b
   ·rw [if_pos hab, if_pos hab]
    by_cases hc : a = e.f0.toNat ∧ b = e.f1.toNat
    ·rw [if_pos hc, if_pos (.inl ⟨by omega, by omega⟩)]
    ·rw [if_neg hc, if_neg (by omega)]
   ·rw [if_neg hab, if_neg hab, if_neg (by omega)]
    rfl
  rw [List.length_cons]
  omega
structure TreeE (v : Nat) (t : List E) : Prop where
 ok : ∀ e ∈ t, EOk (v : Int) e
 len : t.length + 1 = v
 up : ∀ w : Nat, 0 < w → w < v → ∃ a : Nat, a < w ∧ (⟨(a : Int), (w : Int)⟩ : E) ∈ t
theorem TreeE.start : TreeE 1 [] := ⟨fun e he => (by cases he), rfl, fun w h0 h1 => by omega⟩
theorem TreeE.next {v : Nat} {t : List E} (h : TreeE v t) {a : Int} (h0 : 0 ≤ a) (h1 : a < v) : TreeE (v + 1) (t ++ [⟨a, v⟩]) where
 ok := fun e he => by
  rcases List.mem_append.1 he with he | he
  ·have := h.ok e he
   unfold EOk at *
   omega
  ·rw [List.mem_singleton.1 he]
   unfold EOk
   simp only
   omega
 len := by rw [List.length_append]; simp; exact h.len
 up := fun w w0 w1 => by
  by_cases c : w < v
  ·obtain ⟨b, hb, hm⟩ := h.up w w0 c
   exact ⟨b, hb, List.mem_append_left _ hm⟩
  ·obtain rfl : w = v := by omega
   refine ⟨a.toNat, by omega, List.mem_append_right _ ?_⟩
   have e : ((a.toNat : Nat) : Int) = a := by omega
   rw [e]
   exact List.mem_singleton.2 rfl
theorem TreeE.gOk {n : Nat} {t : List E} (h : TreeE n t) (hn : n ≤ 6) : GOk (n : Int) (hEdges n t) := by
 have hl := hEdges_len h.ok
 have hlen := h.len
 refine ⟨⟨by omega, by omega, by omega, hEdges_ok⟩, sorted_of_pw (hEdges_pw n t), ?_⟩
 have key : ∀ w : Nat, w < n → Conn (hEdges n t) 0 (w : Int) := by
  intro w
  induction w using Nat.strongRecOn with
  | _ w ih =>
   intro hw
   by_cases w0 : w = 0
   ·subst w0; exact .refl
   ·obtain ⟨a, ha, hm⟩ := h.up w (by omega) hw
    have hc := ih a ha (by omega)
    have hmem : (⟨(a : Int), (w : Int)⟩ : E) ∈ hEdges n t := by
     refine hEdges_mem.2 ⟨a, w, ha, hw, ?_, rfl⟩
     have h1 := sumE_term (es := t) (f := multE (a : Int) (w : Int)) (fun e _ => by unfold multE; split <;> omega) hm
     have h2 : multE (a : Int) (w : Int) ⟨(a : Int), (w : Int)⟩ = 1 := by unfold multE; simp
     unfold mult
     omega
    exact hc.tail ⟨_, hmem, .inl ⟨rfl, rfl⟩⟩
 intro v h0 h1
 obtain ⟨w, rfl⟩ := Int.eq_ofNat_of_zero_le h0
 exact key w (by omega)
end Go.Proofs.Ytkcbinohpdhbgaa.Cf
end

section
namespace Go.Proofs.Ytkcbinohpdhbgaa.Cf
set_option linter.unusedVariables false
set_option linter.unusedSimpArgs false
open Go.RowKit Go.Proofs.YtkcbinohpdhbgaaW.PrintWords Go.Proofs.Ytkcbinohpdhbgaa.P
theorem forall_drop' {α : Type} {l : List α} {P : α → Prop} {i : Nat} (h : i < l.length) : (∀ e ∈ l.drop i, P e) ↔ (P l[i] ∧ ∀ e ∈ l.drop (i + 1), P e) := by
 rw [List.drop_eq_getElem_cons h]
 simp only [List.mem_cons, forall_eq_or_imp]
theorem implGraph (n : Int) (es : List E) : impl_GraphOk.f n es = some (gOk n es) := rfl
theorem gOk_true {n : Int} {es : List E} (h : gOk n es = true) : GOk n es := gOk_iff.1 h
theorem allWithin_l0 (a b : Int) (l : List Int) (hl : l.length ≤ 1048576) : ∀ (d i : Nat), i + d = l.length → Ep (fun k => impl_allWithin.l0 k a b l (l.length : Int) (i : Int)) (· = decide (∀ x ∈ l.drop i, a ≤ x ∧ x ≤ b)) := by
 intro d
 induction d with
 | zero =>
  intro i hi
  refine Ep.up ?_
  simp only [impl_allWithin.l0]
  refine Ep.neg (by omega) (Ep.now ?_)
  rw [List.drop_of_length_le (by omega)]
  simp
 | succ d ih =>
  intro i hi
  have hlt : i < l.length := by omega
  refine Ep.up ?_
  simp only [impl_allWithin.l0]
  refine Ep.pos (by omega) (Ep.pos (by omega) (Ep.pos (by omega) ?_))
  rw [rd_get hlt, wrap_succ (by omega)]
  refine Ep.bind0 (within_eq _ _ _) ?_
  refine Ep.ite (fun h => ?_) (fun h => Ep.now ?_)
  ·have h' : a ≤ l[i] ∧ l[i] ≤ b := by simpa using h
   refine (ih (i + 1) (by omega)).mono ?_
   rintro _ rfl
   simp only [forall_drop' hlt, h', true_and]
  ·have h' : ¬ (a ≤ l[i] ∧ l[i] ≤ b) := by simpa using h
   simp only [forall_drop' hlt, h', false_and, decide_false]
theorem allWithin_ok (l : List Int) (a b : Int) (hl : l.length ≤ 1048576) : Ep (fun k => impl_allWithin.f k l a b) (· = decide (∀ x ∈ l, a ≤ x ∧ x ≤ b)) := by
 have := allWithin_l0 a b l hl l.length 0 (by omega)
 simp only [impl_allWithin.f]
 rw [List.drop_zero] at this
 exact this
theorem isVertex_eq (n : Int) (es : List E) (v : Int) (hn : Wf .i64 n) : impl_isVertex.f n es v = some (gOk n es && decide (0 ≤ v ∧ v < n)) := by
 unfold impl_isVertex.f
 rw [implGraph]
 simp only [Option.bind_some]
 by_cases h : gOk n es = true
 ·have h1 := (gOk_true h).1.1
  have h6 := (gOk_true h).1.2.1
  rw [if_pos h, wrap_id (by omega) (by omega), within_eq, h]
  simp only [Option.bind_some, Bool.true_and]
  have : (0 ≤ v ∧ v ≤ n - 1) ↔ (0 ≤ v ∧ v < n) := by omega
  simp only [this]
 ·rw [if_neg h]
  have : gOk n es = false := by simpa using h
  rw [this]
  rfl
def At (es : List E) (k v : Int) : Prop := ∃ j : Nat, k = j ∧ ∃ h : j < es.length, es[j].f0 = v ∨ es[j].f1 = v
open Classical in
noncomputable def atB (es : List E) (k v : Int) : Bool := decide (At es k v)
theorem atB_iff {es : List E} {k v : Int} : atB es k v = true ↔ At es k v := by unfold atB; simp
theorem At.of {es : List E} {j : Nat} {v : Int} (hj : j < es.length) : At es (j : Int) v ↔ (es[j].f0 = v ∨ es[j].f1 = v) := by
 constructor
 ·rintro ⟨i, hi, h, hx⟩
  have : i = j := by omega
  subst this
  exact hx
 ·intro h
  exact ⟨j, rfl, hj, h⟩
theorem At.range {es : List E} {k v : Int} (h : At es k v) : 0 ≤ k ∧ k < es.length := by
 obtain ⟨j, rfl, hj, _⟩ := h
 omega
end Go.Proofs.Ytkcbinohpdhbgaa.Cf
end

section
namespace Go.Proofs.Ytkcbinohpdhbgaa.P
open Go.RowKit Go.Proofs.YtkcbinohpdhbgaaW.PrintWords Go.Proofs.YtkcbinohpdhbgaaW.PrintLast Go.Proofs.YtkcbinohpdhbgaaW.PrintMore
attribute [local go_sem] max2_int min2_int max_two min_two max_three min_three max_four min_four
set_option linter.unusedVariables false
set_option linter.unusedSimpArgs false
def spec_Valence.l0 : Nat → Int → Int → List (S76) → Int → Int → Option (Int)
 | 0, _, _, _, _, _ => none
 | k + 1, x1, x5, iK, rJ, nI => if nI < rJ then (if 0 ≤ nI then (if nI < (iK.length : Int) then (if ((rd_T76 iK nI).f0) = x1 then (spec_Valence.l0 k x1 (wrap64 (x5 + 1)) iK rJ (wrap64 (nI + 1))) else (if ((rd_T76 iK nI).f1) = x1 then (spec_Valence.l0 k x1 (wrap64 (x5 + 1)) iK rJ (wrap64 (nI + 1))) else (spec_Valence.l0 k x1 x5 iK rJ (wrap64 (nI + 1))))) else (none)) else (none)) else (some x5)
def spec_Valence.f (k : Nat) (aD : Int) (aC : List (S76)) (a1 : Int) : Option (Int) := (spec_l02Vert.f aD aC a1).bind fun aT => (if aT = true then (spec_Valence.l0 k a1 0 aC (aC.length : Int) 0) else (some 0))
theorem spec_Valence.mono_l : ∀ k, (∀ y0 y1 y2 y3 y4, LeO (spec_Valence.l0 k y0 y1 y2 y3 y4) (spec_Valence.l0 (k + 1) y0 y1 y2 y3 y4))
 | 0 => fun _ _ _ _ _ r h => by simp [spec_Valence.l0] at h
 | k + 1 => by
  have ih0 := spec_Valence.mono_l k
  ·intro y0 y1 y2 y3 y4
   unfold spec_Valence.l0
   exact zm0
theorem spec_Valence.mono : ∀ a0 a1 a2 k, LeO (spec_Valence.f k a0 a1 a2) (spec_Valence.f (k + 1) a0 a1 a2) := by
 intro a0 a1 a2 k; have ih0 := spec_Valence.mono_l k; unfold spec_Valence.f; exact zm0
end Go.Proofs.Ytkcbinohpdhbgaa.P
end

section
namespace Go.Proofs.Ytkcbinohpdhbgaa.Cf
set_option linter.unusedVariables false
set_option linter.unusedSimpArgs false
open Go.RowKit Go.Proofs.YtkcbinohpdhbgaaW.PrintWords Go.Proofs.Ytkcbinohpdhbgaa.P
def dOk (n : Int) (es : List E) (d : List Int) : Bool := gOk n es && (decide ((d.length : Int) = n) && decide (∀ x ∈ d, -60 ≤ x ∧ x ≤ 60))
theorem dOk_iff {n : Int} {es : List E} {d : List Int} : dOk n es d = true ↔ GOk n es ∧ (d.length : Int) = n ∧ ∀ x ∈ d, -60 ≤ x ∧ x ≤ 60 := by
 unfold dOk
 simp only [Bool.and_eq_true, decide_eq_true_eq, gOk_iff]
theorem implDiv (n : Int) (es : List E) (d : List Int) (hl : d.length ≤ 1048576) : Ep (fun k => impl_DivisorOk.f k n es d) (· = dOk n es d) := by
 simp only [impl_DivisorOk.f, dOk]
 refine Ep.bind0 (implGraph n es) (Ep.ite (fun hg => ?_) (fun hg => Ep.now ?_))
 ·refine Ep.ite (fun h => ?_) (fun h => Ep.now ?_)
  ·refine Ep.bind (allWithin_ok d (-60) 60 hl) ?_
   rintro _ rfl
   refine Ep.now ?_
   rw [hg]
   simp only [h, decide_true, Bool.true_and]
  ·simp [h]
 ·have : gOk n es = false := by simpa using hg
  simp [this]
def valG (n : Int) (es : List E) (v : Int) : Int := if 0 ≤ v ∧ v < n then val es v else 0
theorem val_drop {es : List E} {i : Nat} (h : i < es.length) (v : Int) : val (es.drop i) v = valE v es[i] + val (es.drop (i + 1)) v := by
 rw [List.drop_eq_getElem_cons h]
 exact sumE_cons _ _ _
theorem implVal_loop (v : Int) (es : List E) (hl : es.length ≤ 1048576) : ∀ (d i : Nat) (a : Int), i + d = es.length → 0 ≤ a → a ≤ i → Ep (fun k => impl_Valence.l0 k v a es (es.length : Int) (i : Int)) (· = a + val (es.drop i) v) := by
 intro d
 induction d with
 | zero =>
  intro i a hi h0 ha
  refine Ep.up ?_
  simp only [impl_Valence.l0]
  refine Ep.neg (by omega) (Ep.now ?_)
  rw [List.drop_of_length_le (by omega)]
  simp [val, sumE]
 | succ d ih =>
  intro i a hi h0 ha
  have hlt : i < es.length := by omega
  refine Ep.up ?_
  simp only [impl_Valence.l0]
  refine Ep.pos (by omega) (Ep.pos (by omega) (Ep.pos (by omega) ?_))
  rw [rdE_get hlt, wrap_succ (by omega), wrap_id (x := a + 1) (by omega) (by omega), val_drop hlt]
  refine Ep.ite (fun h => ?_) (fun h => Ep.ite (fun h2 => ?_) (fun h2 => ?_))
  ·refine (ih (i + 1) (a + 1) (by omega) (by omega) (by omega)).mono ?_
   rintro _ rfl
   unfold valE
   rw [if_pos (.inl h)]
   omega
  ·refine (ih (i + 1) (a + 1) (by omega) (by omega) (by omega)).mono ?_
   rintro _ rfl
   unfold valE
   rw [if_pos (.inr h2)]
   omega
  ·refine (ih (i + 1) a (by omega) h0 (by omega)).mono ?_
   rintro _ rfl
   unfold valE
   rw [if_neg (by rintro (x | x); exact h x; exact h2 x)]
   omega
theorem implValence (n : Int) (es : List E) (v : Int) (hl : es.length ≤ 1048576) : Ep (fun k => impl_Valence.f k n es v) (· = valG n es v) := by
 simp only [impl_Valence.f, valG]
 refine Ep.ite (fun h => ?_) (fun h => ?_)
 ·refine Ep.up ?_
  simp only [impl_Valence.j0]
  refine Ep.pos trivial (Ep.now ?_)
  rw [if_neg (by omega)]
 ·refine Ep.up ?_
  simp only [impl_Valence.j0]
  refine Ep.ite (fun h2 => Ep.now ?_) (fun h2 => ?_)
  ·have : v ≥ n := by simpa using h2
   rw [if_neg (by omega)]
  ·have : ¬ v ≥ n := by simpa using h2
   refine (implVal_loop v es hl es.length 0 0 (by omega) (by omega) (by omega)).mono ?_
   rintro _ rfl
   rw [if_pos (by omega), List.drop_zero]
   omega
end Go.Proofs.Ytkcbinohpdhbgaa.Cf
end

section
namespace Go.Proofs.Ytkcbinohpdhbgaa.Cf
set_option linter.unusedVariables false
set_option linter.unusedSimpArgs false
def burnSum (es : List E) (b : List Int) (v : Int) : Int := (b.map (mult es v)).sum
inductive Burn (n : Nat) (es : List E) (d : Int → Int) (q : Int) : List Int → Prop
 | start : Burn n es d q [q]
 | step {b : List Int} {v : Int} : Burn n es d q b → 0 ≤ v → v < n → v ∉ b → d v < burnSum es b v → Burn n es d q (b ++ [v])
theorem Burn.ok {n : Nat} {es : List E} {d : Int → Int} {q : Int} {b : List Int} (hq : 0 ≤ q ∧ q < n) (h : Burn n es d q b) : b.Nodup ∧ (∀ v ∈ b, 0 ≤ v ∧ v < n) ∧ q ∈ b := by
 induction h with
 | start => exact ⟨by simp, fun v hv => by rw [List.mem_singleton.1 hv]; exact hq, by simp⟩
 | @step b v _ h0 h1 hv _ ih =>
  refine ⟨?_, fun x hx => ?_, List.mem_append_left _ ih.2.2⟩
  ·rw [List.nodup_append]
   exact ⟨ih.1, by simp, fun a ha c hc => by
    rw [List.mem_singleton.1 hc]
    rintro rfl
    exact hv ha⟩
  ·rcases List.mem_append.1 hx with hx | hx
   ·exact ih.2.1 x hx
   ·rw [List.mem_singleton.1 hx]
    exact ⟨h0, h1⟩
theorem Burn.len {n : Nat} {es : List E} {d : Int → Int} {q : Int} {b : List Int} (hq : 0 ≤ q ∧ q < n) (h : Burn n es d q b) : b.length ≤ n := nodup_len n b (h.ok hq).1 (h.ok hq).2.1
theorem sum_ind (x : Int) : ∀ (b : List Int), b.Nodup → (b.map (fun w => if x = w then (1 : Int) else 0)).sum = if x ∈ b then 1 else 0
 | [], _ => by simp
 | a :: r, h => by
  have ih := sum_ind x r (List.nodup_cons.1 h).2
  have hn := (List.nodup_cons.1 h).1
  simp only [List.map_cons, List.sum_cons, ih, List.mem_cons]
  by_cases e : x = a
  ·subst e
   simp [hn]
  ·simp [e]
theorem sum_zero (b : List Int) : (b.map (fun _ => (0 : Int))).sum = 0 := by
 induction b with
 | nil => rfl
 | cons a r ih => simp only [List.map_cons, List.sum_cons, ih]; rfl
theorem sum_add (b : List Int) (f g : Int → Int) : (b.map (fun w => f w + g w)).sum = (b.map f).sum + (b.map g).sum := by
 induction b with
 | nil => rfl
 | cons a r ih => simp only [List.map_cons, List.sum_cons, ih]; omega
theorem burnSum_lap {n : Int} {es : List E} (hes : ∀ e ∈ es, EOk n e) {b : List Int} (hb : b.Nodup) {v : Int} (hv : v ∉ b) : burnSum es b v = lap es (ind (fun x => decide (x ∉ b))) v := by
 induction es with
 | nil =>
  unfold burnSum
  rw [lap_nil]
  exact sum_zero b
 | cons e r ih =>
  have ih := ih (fun x hx => hes x (List.mem_cons_of_mem _ hx))
  have hk := hes e List.mem_cons_self
  unfold EOk at hk
  have h1 : burnSum (e :: r) b v = (b.map (fun w => multE v w e)).sum + burnSum r b v := by
   unfold burnSum
   rw [← sum_add]
   congr 1
  rw [h1, ih, lap_cons]
  congr 1
  unfold lapE ind multE
  by_cases a : e.f0 = v
  ·have c : ¬ e.f1 = v := by omega
   have key : (b.map (fun w => if (e.f0 = v ∧ e.f1 = w) ∨ (e.f0 = w ∧ e.f1 = v) then (1 : Int) else 0)).sum = if e.f1 ∈ b then 1 else 0 := by
    rw [← sum_ind e.f1 b hb]
    congr 1
    apply List.map_congr_left
    intro w _
    simp [a, c]
   rw [key, if_pos a, if_neg c, a]
   by_cases m : e.f1 ∈ b <;> simp [m, hv]
  ·by_cases c : e.f1 = v
   ·have key : (b.map (fun w => if (e.f0 = v ∧ e.f1 = w) ∨ (e.f0 = w ∧ e.f1 = v) then (1 : Int) else 0)).sum = if e.f0 ∈ b then 1 else 0 := by
     rw [← sum_ind e.f0 b hb]
     congr 1
     apply List.map_congr_left
     intro w _
     simp [a, c]
    rw [key, if_neg a, if_pos c, c]
    by_cases m : e.f0 ∈ b <;> simp [m, hv]
   ·have key : (b.map (fun w => if (e.f0 = v ∧ e.f1 = w) ∨ (e.f0 = w ∧ e.f1 = v) then (1 : Int) else 0)).sum = 0 := by
     exact (congrArg List.sum (List.map_congr_left (g := fun _ => (0 : Int)) (fun w _ => by simp [a, c]))).trans (sum_zero b)
    rw [key, if_neg a, if_neg c]
    rfl
theorem lap_ind_mono {es : List E} {S T : Int → Bool} {v : Int} (hv : S v = true) (hw : T v = true) (h : ∀ x, S x = true → T x = true) : lap es (ind T) v ≤ lap es (ind S) v := by
 apply sumE_le
 intro e _
 have h0 := h e.f0
 have h1 := h e.f1
 unfold lapE ind
 by_cases a : e.f0 = v
 ·by_cases b : e.f1 = v
  ·simp [a, b]
  ·rw [if_pos a, if_pos a, if_neg b, if_neg b, a, hv, hw]
   cases hs : S e.f1 <;> cases ht : T e.f1 <;> simp_all
 ·by_cases b : e.f1 = v
  ·rw [if_neg a, if_neg a, if_pos b, if_pos b, b, hv, hw]
   cases hs : S e.f0 <;> cases ht : T e.f0 <;> simp_all
  ·rw [if_neg a, if_neg a, if_neg b, if_neg b]
   exact Int.le_refl _
theorem Burn.meets {n : Nat} {es : List E} (hes : ∀ e ∈ es, EOk n e) {d : Int → Int} {q : Int} (hq : 0 ≤ q ∧ q < n) {b : List Int} (h : Burn n es d q b) {S : Int → Bool} (hS : S q = false) : (∀ v ∈ b, S v = false) ∨ ∃ v : Int, 0 ≤ v ∧ v < n ∧ S v = true ∧ d v < lap es (ind S) v := by
 induction h with
 | start => exact .inl (fun v hv => by rw [List.mem_singleton.1 hv]; exact hS)
 | @step b v hb h0 h1 hv hlt ih =>
  rcases ih with ih | ih
  ·by_cases hx : S v = true
   ·right
    refine ⟨v, h0, h1, hx, ?_⟩
    rw [burnSum_lap hes (hb.ok hq).1 hv] at hlt
    have := lap_ind_mono (es := es) (S := S) (T := fun x => decide (x ∉ b)) hx (by simpa using hv) (fun x hx => by
     simp only [decide_eq_true_eq]
     intro hm
     rw [ih x hm] at hx
     cases hx)
    omega
   ·left
    intro x hm
    rcases List.mem_append.1 hm with hm | hm
    ·exact ih x hm
    ·rw [List.mem_singleton.1 hm]
     simpa using hx
  ·exact .inr ih
theorem Burn.red {n : Nat} {es : List E} (hes : ∀ e ∈ es, EOk n e) {d : Int → Int} {q : Int} (hq : 0 ≤ q ∧ q < n) {b : List Int} (h : Burn n es d q b) (hl : b.length = n) (hd : ∀ v : Int, 0 ≤ v → v < n → v ≠ q → 0 ≤ d v) : Red n es q d := by
 refine ⟨hd, fun S hS hx => ?_⟩
 rcases h.meets hes hq hS with hb | hb
 ·exfalso
  obtain ⟨v, h0, h1, hv⟩ := hx
  have : v ∈ b := by
   apply Classical.byContradiction
   intro hn
   have := nodup_len n (v :: b) (List.nodup_cons.2 ⟨hn, (h.ok hq).1⟩) (fun x hx => by
    rcases List.mem_cons.1 hx with rfl | hx
    ·exact ⟨h0, h1⟩
    ·exact (h.ok hq).2.1 x hx)
   simp at this
   omega
  rw [hb v this] at hv
  cases hv
 ·exact hb
theorem sumE_bd {es : List E} {f : E → Int} {S : Int} (h : ∀ e ∈ es, -S ≤ f e ∧ f e ≤ S) : -(es.length * S) ≤ sumE es f ∧ sumE es f ≤ es.length * S := by
 induction es with
 | nil => simp [sumE]
 | cons e r ih =>
  rw [sumE_cons]
  have := ih (fun x hx => h x (List.mem_cons_of_mem _ hx))
  have := h e List.mem_cons_self
  rw [List.length_cons, Int.natCast_succ, Int.add_mul, Int.one_mul]
  omega
theorem lap_bd {n : Int} {es : List E} (hes : ∀ e ∈ es, EOk n e) (hel : es.length ≤ 12) {s : Int → Int} {L S : Int} (hS : 0 ≤ S) (h : ∀ v, 0 ≤ v → v < n → L ≤ s v ∧ s v ≤ L + S) (w : Int) : -(12 * S) ≤ lap es s w ∧ lap es s w ≤ 12 * S := by
 have h1 := sumE_bd (es := es) (f := lapE s w) (S := S) (fun e he => by
  have hk := hes e he
  unfold EOk at hk
  have h0 := h e.f0 (by omega) (by omega)
  have h1 := h e.f1 (by omega) (by omega)
  unfold lapE
  by_cases a : e.f0 = w
  ·rw [if_pos a, if_neg (by omega)]; omega
  ·rw [if_neg a]
   by_cases b : e.f1 = w
   ·rw [if_pos b]; omega
   ·rw [if_neg b]; omega)
 have h2 : (es.length : Int) * S ≤ 12 * S := Int.mul_le_mul_of_nonneg_right (by omega) hS
 unfold lap
 omega
theorem sumN_le_const {n : Nat} {f : Nat → Int} {c : Int} (h : ∀ i, i < n → f i ≤ c) : sumN n f ≤ n * c := by
 rw [← sumN_const]
 exact sumN_le h
theorem sumN_nonneg {n : Nat} {f : Nat → Int} (h : ∀ i, i < n → 0 ≤ f i) : 0 ≤ sumN n f := by
 have := sumN_le (n := n) (f := fun _ => 0) (g := f) h
 rw [sumN_zero] at this
 exact this
theorem one_nat (v t : Int) (i : Nat) : one v t (i : Int) = if (i : Int) = v then t else 0 := rfl
theorem sumN_one' {n : Nat} {v : Int} (h0 : 0 ≤ v) (h1 : v < n) (t : Int) : sumN n (fun i => one v t (i : Int)) = t := by
 have := sumN_one (n := n) v.toNat (by omega) t
 refine (sumN_congr fun i _ => ?_).trans this
 rw [one_nat]
 have : ((i : Int) = v) ↔ i = v.toNat := by omega
 simp only [this]
theorem Legal.keeps1 {n : Nat} {es : List E} (hes : ∀ e ∈ es, EOk n e) {q : Int} {p s : Int → Int} (h : Legal n es q p s) : ∀ v : Int, 0 ≤ v → v < n → 0 < s v → 0 ≤ p v - lap es s v := by
 induction h with
 | zero => intro v _ _ h; exact absurd h (by simp)
 | @step s u hl h0 h1 hq hv ih =>
  intro w k0 k1 hs
  rw [lap_add]
  by_cases e : w = u
  ·subst e
   rw [lap_one_self hes]
   omega
  ·rw [lap_one_ne hes e]
   have := mult_nonneg es u w
   have := ih w k0 k1 (by
    have hs' : 0 < s w + one u 1 w := hs
    unfold one at hs'
    rw [if_neg e] at hs'
    omega)
   omega
theorem Legal.bound1 {n : Nat} {es : List E} (hes : ∀ e ∈ es, EOk n e) (hj : Joined n es) {q : Int} (hq : 0 ≤ q ∧ q < n) {p s : Int → Int} (h : Legal n es q p s) {c : Int} (hc : 0 ≤ c) (hpc : ∀ v : Int, 0 ≤ v → v < n → v ≠ q → p v ≤ c) : ∀ v : Int, 0 ≤ v → v < n → s v ≤ n * (n * c) := by
 refine script_bd hes hj hq hc (by rw [h.nonneg.2]; exact Int.le_refl _) ?_
 intro v h0 h1 hs
 have hne : v ≠ q := by rintro rfl; rw [h.nonneg.2] at hs; omega
 have := h.keeps1 hes v h0 h1 hs
 have := hpc v h0 h1 hne
 omega
theorem sq_le {n : Nat} (hn : n ≤ 6) {c : Int} (hc : 0 ≤ c) : (n : Int) * (n * c) ≤ 36 * c := by
 have h1 : (n : Int) * c ≤ 6 * c := Int.mul_le_mul_of_nonneg_right (by omega) hc
 have h2 : (n : Int) * (n * c) ≤ n * (6 * c) := Int.mul_le_mul_of_nonneg_left h1 (by omega)
 have h3 : (n : Int) * (6 * c) ≤ 6 * (6 * c) := Int.mul_le_mul_of_nonneg_right (by omega) (by omega)
 omega
theorem Legal.small {n : Nat} (hn : n ≤ 6) {es : List E} (hes : ∀ e ∈ es, EOk n e) (hj : Joined n es) {q : Int} (hq : 0 ≤ q ∧ q < n) {p s : Int → Int} (h : Legal n es q p s) {c : Int} (hc : 0 ≤ c) (hpc : ∀ v : Int, 0 ≤ v → v < n → v ≠ q → p v ≤ c) :
  (∀ v : Int, 0 ≤ v → v < n → 0 ≤ s v ∧ s v ≤ 36 * c) ∧ sumN n (fun i => s (i : Int)) ≤ 216 * c := by
 have h36 := sq_le hn hc
 have hb : ∀ v : Int, 0 ≤ v → v < n → 0 ≤ s v ∧ s v ≤ 36 * c := fun v h0 h1 => by
  have := h.bound1 hes hj hq hc hpc v h0 h1
  have := h.nonneg.1 v
  omega
 refine ⟨hb, ?_⟩
 have h1 := sumN_le_const (n := n) (f := fun i => s (i : Int)) (c := 36 * c) (fun i hi => (hb i (by omega) (by omega)).2)
 have h2 : (n : Int) * (36 * c) ≤ 6 * (36 * c) := Int.mul_le_mul_of_nonneg_right (by omega) (by omega)
 omega
theorem sum_grow {n : Nat} {s : Int → Int} {v : Int} (h0 : 0 ≤ v) (h1 : v < n) (t : Int) : sumN n (fun i => (fun w => s w + one v t w) (i : Int)) = sumN n (fun i => s (i : Int)) + t := by
 rw [sumN_add n (fun i => s (i : Int)) (fun i => one v t (i : Int)), sumN_one' h0 h1]
def dual (es : List E) (d : Int → Int) (v : Int) : Int := val es v - 1 - d v
structure Sets (n : Nat) (es : List E) (q : Int) (d u : Int → Int) : Prop where
 pos : ∀ w, 0 ≤ u w
 at_q : u q = 0
 keeps : ∀ v : Int, 0 ≤ v → v < n → v ≠ q → 0 ≤ d v - lap es u v
theorem Sets.zero {n : Nat} {es : List E} {q : Int} {d : Int → Int} (h : ∀ v : Int, 0 ≤ v → v < n → v ≠ q → 0 ≤ d v) : Sets n es q d (fun _ => 0) where
 pos := fun _ => Int.le_refl _
 at_q := rfl
 keeps := fun v h0 h1 h2 => by
  rw [lap_const (c := 0) (fun _ _ => ⟨rfl, rfl⟩)]
  have := h v h0 h1 h2
  omega
theorem Sets.small {n : Nat} (hn : n ≤ 6) {es : List E} (hes : ∀ e ∈ es, EOk n e) (hj : Joined n es) {q : Int} (hq : 0 ≤ q ∧ q < n) {d u : Int → Int} (h : Sets n es q d u) {c : Int} (hc : 0 ≤ c) (hpc : ∀ v : Int, 0 ≤ v → v < n → v ≠ q → d v ≤ c) :
  (∀ v : Int, 0 ≤ v → v < n → 0 ≤ u v ∧ u v ≤ 36 * c) ∧ sumN n (fun i => u (i : Int)) ≤ 216 * c := by
 have h36 := sq_le hn hc
 have hb : ∀ v : Int, 0 ≤ v → v < n → 0 ≤ u v ∧ u v ≤ 36 * c := fun v h0 h1 => by
  have := script_bd hes hj hq hc (s := u) (by rw [h.at_q]; exact Int.le_refl _) (fun v h0 h1 hs => by
   have hne : v ≠ q := by rintro rfl; rw [h.at_q] at hs; omega
   have := h.keeps v h0 h1 hne
   have := hpc v h0 h1 hne
   omega) v h0 h1
  have := h.pos v
  omega
 refine ⟨hb, ?_⟩
 have h1 := sumN_le_const (n := n) (f := fun i => u (i : Int)) (c := 36 * c) (fun i hi => (hb i (by omega) (by omega)).2)
 have h2 : (n : Int) * (36 * c) ≤ 6 * (36 * c) := Int.mul_le_mul_of_nonneg_right (by omega) (by omega)
 omega
def unb (b : List Int) : Int → Int := ind (fun x => decide (x ∉ b))
theorem unb_mem {b : List Int} {v : Int} (h : v ∈ b) : unb b v = 0 := by simp [unb, ind, h]
theorem unb_not {b : List Int} {v : Int} (h : v ∉ b) : unb b v = 1 := by simp [unb, ind, h]
theorem unb_nonneg (b : List Int) (v : Int) : 0 ≤ unb b v := by
 by_cases h : v ∈ b
 ·rw [unb_mem h]; omega
 ·rw [unb_not h]; omega
theorem Sets.step {n : Nat} {es : List E} (hes : ∀ e ∈ es, EOk n e) {q : Int} (hq : 0 ≤ q ∧ q < n) {d u x : Int → Int} (h : Sets n es q d u) (hx : ∀ v : Int, 0 ≤ v → v < n → x v = d v - lap es u v) {b : List Int} (hb : Burn n es x q b) (hc : ∀ v : Int, 0 ≤ v → v < n → v ∉ b → burnSum es b v ≤ x v) :
  Sets n es q d (fun w => u w + unb b w) where
 pos := fun w => by have := h.pos w; have := unb_nonneg b w; show 0 ≤ u w + unb b w; omega
 at_q := by show u q + unb b q = 0; rw [h.at_q, unb_mem (hb.ok hq).2.2]; rfl
 keeps := fun v h0 h1 h2 => by
  rw [lap_add]
  have := h.keeps v h0 h1 h2
  have e := hx v h0 h1
  by_cases hm : v ∈ b
  ·have := lap_le_zero (es := es) (r := unb b) (v := v) (unb_nonneg b) (unb_mem hm)
   omega
  ·have h3 := hc v h0 h1 hm
   rw [burnSum_lap hes (hb.ok hq).1 hm] at h3
   have : lap es (unb b) v = lap es (ind (fun x => decide (x ∉ b))) v := rfl
   omega
theorem unburnt_some {n : Nat} {b : List Int} (hl : b.length < n) : ∃ v : Int, 0 ≤ v ∧ v < n ∧ v ∉ b := by
 apply Classical.byContradiction
 intro hc
 have := len_nodup n b (fun i hi => by
  apply Classical.byContradiction
  intro hm
  exact hc ⟨i, by omega, by omega, hm⟩)
 omega
theorem sum_unb {n : Nat} {u : Int → Int} {b : List Int} (hex : ∃ v : Int, 0 ≤ v ∧ v < n ∧ v ∉ b) : sumN n (fun i => u (i : Int)) + 1 ≤ sumN n (fun i => (fun w => u w + unb b w) (i : Int)) := by
 obtain ⟨v, h0, h1, hm⟩ := hex
 rw [sumN_add n (fun i => u (i : Int)) (fun i => unb b (i : Int))]
 have := sumN_pos_term (n := n) (f := fun i => unb b (i : Int)) (fun i _ => unb_nonneg b _) v.toNat (by omega)
 have e : ((v.toNat : Nat) : Int) = v := by omega
 simp only [e, unb_not hm] at this
 omega
def nextB (es : List E) (d : Int → Int) (b : List Int) : Nat → Nat → Int
 | 0, _ => -1
 | k + 1, i => if (i : Int) ∉ b ∧ d i < burnSum es b i then i else nextB es d b k (i + 1)
theorem nextB_ok (es : List E) (d : Int → Int) (b : List Int) : ∀ (k i : Nat), (nextB es d b k i = -1 ∧ ∀ j : Nat, i ≤ j → j < i + k → (j : Int) ∉ b → burnSum es b j ≤ d j) ∨ ((i : Int) ≤ nextB es d b k i ∧ nextB es d b k i < i + k ∧ nextB es d b k i ∉ b ∧ d (nextB es d b k i) < burnSum es b (nextB es d b k i))
 | 0, i => .inl ⟨rfl, fun j h0 h1 => by omega⟩
 | k + 1, i => by
  unfold nextB
  by_cases h : (i : Int) ∉ b ∧ d i < burnSum es b i
  ·rw [if_pos h]
   exact .inr ⟨by omega, by omega, h.1, h.2⟩
  ·rw [if_neg h]
   rcases nextB_ok es d b k (i + 1) with ⟨h1, h2⟩ | ⟨h1, h2, h3⟩
   ·refine .inl ⟨h1, fun j h3 h4 h5 => ?_⟩
    by_cases e : j = i
    ·subst e
     apply Classical.byContradiction
     intro hc
     exact h ⟨h5, by omega⟩
    ·exact h2 j (by omega) (by omega) h5
   ·exact .inr ⟨by omega, by omega, h3⟩
def burnW (n : Nat) (es : List E) (d : Int → Int) : Nat → List Int → List Int
 | 0, b => b
 | k + 1, b => if nextB es d b n 0 < 0 then b else burnW n es d k (b ++ [nextB es d b n 0])
def burnF (n : Nat) (es : List E) (d : Int → Int) (q : Int) : List Int := burnW n es d n [q]
def BClosed (n : Nat) (es : List E) (d : Int → Int) (b : List Int) : Prop := ∀ v : Int, 0 ≤ v → v < n → v ∉ b → burnSum es b v ≤ d v
theorem nextB_closed {n : Nat} {es : List E} {d : Int → Int} {b : List Int} (h : nextB es d b n 0 < 0) : BClosed n es d b := by
 rcases nextB_ok es d b n 0 with ⟨_, h2⟩ | ⟨h1, _⟩
 ·intro v h0 h1 hm
  have e : ((v.toNat : Nat) : Int) = v := by omega
  have := h2 v.toNat (by omega) (by omega) (by rw [e]; exact hm)
  rw [e] at this
  exact this
 ·omega
theorem burnW_ok {n : Nat} {es : List E} {d : Int → Int} {q : Int} (hq : 0 ≤ q ∧ q < n) : ∀ (k : Nat) (b : List Int), n + 1 ≤ b.length + k → Burn n es d q b → Burn n es d q (burnW n es d k b) ∧ BClosed n es d (burnW n es d k b)
 | 0, b, hl, h => by have := h.len hq; omega
 | k + 1, b, hl, h => by
  unfold burnW
  by_cases hc : nextB es d b n 0 < 0
  ·rw [if_pos hc]
   exact ⟨h, nextB_closed hc⟩
  ·rw [if_neg hc]
   rcases nextB_ok es d b n 0 with ⟨h1, _⟩ | ⟨h1, h2, h3, h4⟩
   ·omega
   ·exact burnW_ok hq k _ (by simp; omega) (h.step (by omega) (by omega) h3 h4)
theorem burnF_ok {n : Nat} {es : List E} {d : Int → Int} {q : Int} (hq : 0 ≤ q ∧ q < n) : Burn n es d q (burnF n es d q) ∧ BClosed n es d (burnF n es d q) := burnW_ok hq n [q] (by simp; omega) .start
def RedTo (n : Nat) (es : List E) (q : Int) (d x s : Int → Int) : Prop := Red n es q x ∧ s q = 0 ∧ ∀ v : Int, 0 ≤ v → v < n → x v = d v - lap es s v
theorem RedTo.unique {n : Nat} {es : List E} (hes : ∀ e ∈ es, EOk n e) {q : Int} (hq : 0 ≤ q ∧ q < n) {d x s x' s' : Int → Int} (h : RedTo n es q d x s) (h' : RedTo n es q d x' s') : ∀ v : Int, 0 ≤ v → v < n → x v = x' v ∧ s v = s' v := by
 have hu := red_unique hes hq h.1 h'.1 (s := fun v => s' v - s v) (fun v h0 h1 => by
  rw [lap_sub, h.2.2 v h0 h1, h'.2.2 v h0 h1]
  omega)
 intro v h0 h1
 have h2 := hu.1 v h0 h1
 simp only [h.2.1, h'.2.1] at h2
 exact ⟨(hu.2 v h0 h1).symm, by omega⟩
theorem Red.congr {n : Nat} {es : List E} {q : Int} {d d' : Int → Int} (h : Red n es q d) (he : ∀ v : Int, 0 ≤ v → v < n → d v = d' v) : Red n es q d' := by
 refine ⟨fun v h0 h1 h2 => by rw [← he v h0 h1]; exact h.1 v h0 h1 h2, fun S hS hx => ?_⟩
 obtain ⟨v, h0, h1, h2, h3⟩ := h.2 S hS hx
 exact ⟨v, h0, h1, h2, by rw [← he v h0 h1]; exact h3⟩
theorem Red.lt {n : Nat} {es : List E} (hes : ∀ e ∈ es, EOk n e) {q : Int} {d : Int → Int} (h : Red n es q d) {v : Int} (h0 : 0 ≤ v) (h1 : v < n) (hv : v ≠ q) : 0 ≤ d v ∧ d v < val es v := by
 refine ⟨h.1 v h0 h1 hv, ?_⟩
 obtain ⟨w, _, _, hw, hlt⟩ := h.2 (fun x => decide (x = v)) (by simpa using fun e => hv e.symm) ⟨v, h0, h1, by simp⟩
 obtain rfl : w = v := by simpa using hw
 have e : ind (fun x => decide (x = w)) = one w 1 := by
  funext x
  unfold ind one
  by_cases c : x = w <;> simp [c]
 rw [e, lap_one_self hes] at hlt
 omega
theorem Red.at_q {n : Nat} (hn : n ≤ 6) {es : List E} (hes : ∀ e ∈ es, EOk n e) (hel : es.length ≤ 12) {q : Int} (hq : 0 ≤ q ∧ q < n) {d : Int → Int} (h : Red n es q d) : sumN n (fun i => d (i : Int)) - 72 ≤ d q ∧ d q ≤ sumN n (fun i => d (i : Int)) := by
 have hf : ∀ i : Nat, i < n → 0 ≤ d i - one q (d q) i ∧ d i - one q (d q) i ≤ 12 := by
  intro i hi
  unfold one
  by_cases e : (i : Int) = q
  ·rw [if_pos e, e]; omega
  ·rw [if_neg e]
   have := h.lt hes (v := i) (by omega) (by omega) e
   have := val_le es i
   omega
 have h1 : sumN n (fun i => d (i : Int)) = sumN n (fun i => d i - one q (d q) i) + d q := by
  have := sumN_add n (fun i => d i - one q (d q) i) (fun i => one q (d q) i)
  rw [sumN_one' hq.1 hq.2] at this
  rw [← this]
  apply sumN_congr
  intro i _
  omega
 have h2 := sumN_nonneg (n := n) (fun i hi => (hf i hi).1)
 have h3 := sumN_le_const (n := n) (fun i hi => (hf i hi).2)
 omega
theorem RedTo.degree {n : Nat} {es : List E} (hes : ∀ e ∈ es, EOk n e) {q : Int} {d x s : Int → Int} (h : RedTo n es q d x s) : sumN n (fun i => x (i : Int)) = sumN n (fun i => d (i : Int)) := by
 have h1 := sumN_congr (n := n) (f := fun i => x (i : Int)) (g := fun i => d (i : Int) + (- lap es s i)) (fun i hi => by
  have := h.2.2 i (by omega) (by omega)
  omega)
 have h2 := lap_sum (n := n) hes (fun v => - s v)
 rw [h1, sumN_add n (fun i => d (i : Int)) (fun i => - lap es s i)]
 have h3 : sumN n (fun i => lap es (fun v => - s v) i) = sumN n (fun i => - lap es s i) := sumN_congr (fun i _ => lap_neg _ _ _)
 omega
end Go.Proofs.Ytkcbinohpdhbgaa.Cf
end

section
namespace Go.Proofs.Ytkcbinohpdhbgaa.Cf
set_option linter.unusedVariables false
set_option linter.unusedSimpArgs false
open Go.Proofs.YtkcbinohpdhbgaaW.PrintWords
theorem rd_set {x : List Int} {i : Int} (h0 : 0 ≤ i) (h1 : i < x.length) (y : Int) {w : Int} (hw : 0 ≤ w) : rd (x.set i.toNat y) w = if w = i then y else rd x w := by
 obtain ⟨a, rfl⟩ := Int.eq_ofNat_of_zero_le h0
 obtain ⟨b, rfl⟩ := Int.eq_ofNat_of_zero_le hw
 simp only [Int.ofNat_eq_natCast, Int.toNat_natCast, rd_nat, List.getD_eq_getElem?_getD] at *
 by_cases c : b = a
 ·subst c
  rw [List.getElem?_set_self (by omega), if_pos rfl]
  rfl
 ·rw [List.getElem?_set_ne (fun y => c y.symm), if_neg (by omega)]
def Bd (x : List Int) (B : Int) : Prop := ∀ w : Int, 0 ≤ w → w < x.length → -B ≤ rd x w ∧ rd x w ≤ B
theorem Bd.mono {x : List Int} {B B' : Int} (h : Bd x B) (hB : B ≤ B') : Bd x B' := fun w h0 h1 => by have := h w h0 h1; omega
theorem Bd.of60 {p : List Int} (h : ∀ x ∈ p, -60 ≤ x ∧ x ≤ 60) : Bd p 60 := fun w h0 h1 => by
 obtain ⟨i, rfl⟩ := Int.eq_ofNat_of_zero_le h0
 have hi : i < p.length := by omega
 rw [rd_get hi]
 exact h _ (List.getElem_mem hi)
def Less (es : List E) (d : List Int) (s : Int → Int) (x : List Int) : Prop := x.length = d.length ∧ ∀ w : Int, 0 ≤ w → w < d.length → rd x w = rd d w - lap es s w
theorem lap_snoc (es : List E) (e : E) (s : Int → Int) (w : Int) : lap (es ++ [e]) s w = lap es s w + lapE s w e := by
 induction es with
 | nil => simp [lap, sumE]
 | cons a r ih => rw [List.cons_append, lap_cons, ih, lap_cons]; omega
theorem lap_take {es : List E} {i : Nat} (h : i < es.length) (s : Int → Int) (w : Int) : lap (es.take (i + 1)) s w = lap (es.take i) s w + lapE s w es[i] := by
 rw [List.take_succ_eq_append_getElem h, lap_snoc]
def Rep (n : Nat) (c : List Int) (s : Int → Int) : Prop := c.length = n ∧ ∀ w : Int, 0 ≤ w → w < n → rd c w = s w
theorem Rep.ext {n : Nat} {c c' : List Int} {s : Int → Int} (h : Rep n c s) (h' : Rep n c' s) : c = c' := by
 apply List.ext_getElem (by rw [h.1, h'.1])
 intro i h1 h2
 have e := h.2 i (by omega) (by have := h.1; omega)
 have e' := h'.2 i (by omega) (by have := h.1; omega)
 rw [rd_get h1] at e
 rw [rd_get h2] at e'
 rw [e, e']
theorem Rep.congr {n : Nat} {c : List Int} {s t : Int → Int} (h : Rep n c s) (he : ∀ w : Int, 0 ≤ w → w < n → s w = t w) : Rep n c t := ⟨h.1, fun w h0 h1 => (h.2 w h0 h1).trans (he w h0 h1)⟩
theorem Rep.self {n : Nat} {c : List Int} (h : c.length = n) : Rep n c (rd c) := ⟨h, fun _ _ _ => rfl⟩
theorem Rep.set {n : Nat} {c : List Int} {s : Int → Int} (h : Rep n c s) {v : Int} (h0 : 0 ≤ v) (h1 : v < n) (y : Int) : Rep n (c.set v.toNat y) (fun w => if w = v then y else s w) := by
 refine ⟨by rw [List.length_set]; exact h.1, fun w w0 w1 => ?_⟩
 rw [rd_set h0 (by rw [h.1]; exact h1) y w0, h.2 w w0 w1]
theorem rd_replicate (n : Nat) (v : Int) : rd (List.replicate n (0 : Int)) v = 0 := by
 unfold rd
 rw [List.getD_eq_getElem?_getD]
 by_cases h : v.toNat < n
 ·rw [List.getElem?_replicate_of_lt h]; rfl
 ·rw [List.getElem?_eq_none (by simp; omega)]; rfl
theorem Rep.zero (n : Nat) : Rep n (List.replicate n (0 : Int)) (fun _ => 0) := ⟨by simp, fun w _ _ => rd_replicate n w⟩
def repL (n : Nat) (f : Int → Int) : List Int := (List.range n).map fun i : Nat => f (i : Int)
theorem repL_len (n : Nat) (f : Int → Int) : (repL n f).length = n := by simp [repL]
theorem repL_rep (n : Nat) (f : Int → Int) : Rep n (repL n f) f := by
 refine ⟨by simp [repL], fun w h0 h1 => ?_⟩
 obtain ⟨a, rfl⟩ := Int.eq_ofNat_of_zero_le h0
 rw [rd_get (by simp [repL]; omega)]
 simp [repL]
theorem Rep.eq {n : Nat} {c : List Int} {s : Int → Int} (h : Rep n c s) : c = repL n s := h.ext (repL_rep n s)
theorem Rep.mem {n : Nat} {c : List Int} {s : Int → Int} (h : Rep n c s) {x : Int} (hx : x ∈ c) : ∃ w : Int, 0 ≤ w ∧ w < n ∧ x = s w := by
 obtain ⟨i, hi, rfl⟩ := List.getElem_of_mem hx
 have := h.1
 refine ⟨i, by omega, by omega, ?_⟩
 rw [← h.2 i (by omega) (by omega), rd_get hi]
theorem Rep.bd {n : Nat} {c : List Int} {s : Int → Int} {B : Int} (h : Rep n c s) (hb : ∀ w : Int, 0 ≤ w → w < n → -B ≤ s w ∧ s w ≤ B) : Bd c B := fun w h0 h1 => by
 rw [h.2 w h0 (by have := h.1; omega)]
 exact hb w h0 (by have := h.1; omega)
theorem Less.rep {n : Nat} {es : List E} {d x : List Int} {s : Int → Int} (hd : d.length = n) (h : Less es d s x) : Rep n x (fun w => rd d w - lap es s w) := ⟨h.1.trans hd, fun w h0 h1 => h.2 w h0 (by omega)⟩
def Settled (n : Nat) (es : List E) (q : Int) (p : List Int) (r : List Int × List Int) : Prop :=
 ∃ s : Int → Int, Legal n es q (rd p) s ∧ Stable n es q (fun v => rd p v - lap es s v) ∧ Rep n r.1 (fun w => if w = q then 0 else rd p w - lap es s w) ∧ Rep n r.2 s
theorem Settled.unique {n : Nat} {es : List E} {q : Int} {p : List Int} {r r' : List Int × List Int} (h : Settled n es q p r) (h' : Settled n es q p r') : r = r' := by
 obtain ⟨s, h1, h2, h3, h4⟩ := h
 obtain ⟨t, k1, k2, k3, k4⟩ := h'
 obtain rfl := h1.unique k1 h2 k2
 exact Prod.ext (h3.ext k3) (h4.ext k4)
open Classical in
noncomputable def settleS (n : Nat) (es : List E) (q : Int) (p : List Int) : List Int × List Int := if h : ∃ r, Settled n es q p r then Classical.choose h else ([], [])
theorem Settled.eq {n : Nat} {es : List E} {q : Int} {p : List Int} {r : List Int × List Int} (h : Settled n es q p r) : r = settleS n es q p := by
 have he : ∃ r, Settled n es q p r := ⟨r, h⟩
 unfold settleS
 rw [dif_pos he]
 exact h.unique (Classical.choose_spec he)
def Reduced (n : Nat) (es : List E) (q : Int) (d : List Int) (r : List Int × List Int) : Prop := r.1.length = n ∧ r.2.length = n ∧ RedTo n es q (rd d) (rd r.1) (rd r.2)
theorem Reduced.unique {n : Nat} {es : List E} (hes : ∀ e ∈ es, EOk n e) {q : Int} (hq : 0 ≤ q ∧ q < n) {d : List Int} {r r' : List Int × List Int} (h : Reduced n es q d r) (h' : Reduced n es q d r') : r = r' := by
 have hu := h.2.2.unique hes hq h'.2.2
 refine Prod.ext ?_ ?_
 ·exact (Rep.self h.1).ext ((Rep.self h'.1).congr fun w h0 h1 => (hu w h0 h1).1.symm)
 ·exact (Rep.self h.2.1).ext ((Rep.self h'.2.1).congr fun w h0 h1 => (hu w h0 h1).2.symm)
open Classical in
noncomputable def reduceS (n : Nat) (es : List E) (q : Int) (d : List Int) : List Int × List Int := if h : ∃ r, Reduced n es q d r then Classical.choose h else ([], [])
theorem Reduced.eq {n : Nat} {es : List E} (hes : ∀ e ∈ es, EOk n e) {q : Int} (hq : 0 ≤ q ∧ q < n) {d : List Int} {r : List Int × List Int} (h : Reduced n es q d r) : r = reduceS n es q d := by
 have he : ∃ r, Reduced n es q d r := ⟨r, h⟩
 unfold reduceS
 rw [dif_pos he]
 exact h.unique hes hq (Classical.choose_spec he)
theorem sum_rd : ∀ (n : Nat) (c : List Int), c.length = n → c.sum = sumN n (fun i => rd c (i : Int))
 | 0, c, h => by
  obtain rfl := List.length_eq_zero_iff.1 h
  rfl
 | n + 1, c, h => by
  obtain ⟨a, x, rfl⟩ : ∃ a x, c = a ++ [x] := ⟨c.dropLast, c.getLast (by rintro rfl; simp at h), (List.dropLast_concat_getLast _).symm⟩
  simp only [List.length_append, List.length_cons, List.length_nil, Nat.zero_add, Nat.add_right_cancel_iff] at h
  simp only [sumN, List.sum_append, List.sum_cons, List.sum_nil]
  rw [sum_rd n a h]
  congr 1
  ·apply sumN_congr
   intro i hi
   rw [rd_get (show i < a.length by omega), rd_get (show i < (a ++ [x]).length by simp; omega), List.getElem_append_left (by omega)]
  ·subst h
   rw [rd_get (show a.length < (a ++ [x]).length by simp)]
   simp
theorem Reduced.bd {n : Nat} (hn : n ≤ 6) {es : List E} (hes : ∀ e ∈ es, EOk n e) (hel : es.length ≤ 12) {q : Int} (hq : 0 ≤ q ∧ q < n) {d : List Int} (hd : d.length = n) {r : List Int × List Int} (h : Reduced n es q d r) :
  r.1.sum = d.sum ∧ ∀ v : Int, 0 ≤ v → v < n → (v ≠ q → 0 ≤ rd r.1 v ∧ rd r.1 v ≤ 11) ∧ (v = q → d.sum - 72 ≤ rd r.1 v ∧ rd r.1 v ≤ d.sum) := by
 have h1 : r.1.sum = d.sum := by rw [sum_rd n _ h.1, sum_rd n _ hd]; exact h.2.2.degree hes
 refine ⟨h1, fun v h0 h2 => ⟨fun hv => ?_, ?_⟩⟩
 ·have := h.2.2.1.lt hes h0 h2 hv
  have := val_le es v
  omega
 ·rintro rfl
  have := h.2.2.1.at_q hn hes hel hq
  rw [← sum_rd n _ h.1, h1] at this
  exact this
end Go.Proofs.Ytkcbinohpdhbgaa.Cf
end

section
namespace Go.Proofs.Ytkcbinohpdhbgaa.Cf
set_option linter.unusedVariables false
set_option linter.unusedSimpArgs false
open Go.Proofs.YtkcbinohpdhbgaaW.PrintWords
theorem valG_in {n : Int} {es : List E} {v : Int} (h : 0 ≤ v ∧ v < n) : valG n es v = val es v := by
 unfold valG
 rw [if_pos h]
def debtF (q : Int) (p : List Int) : Nat → Nat → Int
 | 0, _ => -1
 | d + 1, i => if (i : Int) = q then debtF q p d (i + 1) else if rd p i < 0 then i else debtF q p d (i + 1)
theorem debtF_ok (q : Int) (p : List Int) : ∀ (d i : Nat), (debtF q p d i = -1 ∧ ∀ j : Nat, i ≤ j → j < i + d → (j : Int) ≠ q → 0 ≤ rd p (j : Int)) ∨ ((i : Int) ≤ debtF q p d i ∧ debtF q p d i < i + d ∧ debtF q p d i ≠ q ∧ rd p (debtF q p d i) < 0)
 | 0, i => .inl ⟨rfl, fun j h0 h1 => by omega⟩
 | d + 1, i => by
  unfold debtF
  have ih := debtF_ok q p d (i + 1)
  by_cases h : (i : Int) = q
  ·rw [if_pos h]
   rcases ih with ⟨h1, h2⟩ | ⟨h1, h2, h3⟩
   ·refine .inl ⟨h1, fun j h3 h4 h5 => ?_⟩
    by_cases e : j = i
    ·subst e; exact absurd h h5
    ·exact h2 j (by omega) (by omega) h5
   ·exact .inr ⟨by omega, by omega, h3⟩
  ·rw [if_neg h]
   by_cases h2 : rd p i < 0
   ·rw [if_pos h2]
    exact .inr ⟨by omega, by omega, h, h2⟩
   ·rw [if_neg h2]
    rcases ih with ⟨h1, h3⟩ | ⟨h1, h3, h4⟩
    ·refine .inl ⟨h1, fun j k1 k2 k3 => ?_⟩
     by_cases e : j = i
     ·subst e; omega
     ·exact h3 j (by omega) (by omega) k3
    ·exact .inr ⟨by omega, by omega, h4⟩
theorem debt_neg {n : Nat} {q : Int} {p : List Int} (hp : p.length = n) (h : debtF q p p.length 0 < 0) : ∀ v : Int, 0 ≤ v → v < n → v ≠ q → 0 ≤ rd p v := by
 intro v h0 h1 hv
 rcases debtF_ok q p p.length 0 with ⟨_, h2⟩ | ⟨h2, _⟩
 ·have := h2 v.toNat (by omega) (by omega) (by omega)
  have e : ((v.toNat : Nat) : Int) = v := by omega
  rw [e] at this
  exact this
 ·omega
theorem debt_pos {n : Nat} {q : Int} {p : List Int} (hp : p.length = n) (h : ¬ debtF q p p.length 0 < 0) : 0 ≤ debtF q p p.length 0 ∧ debtF q p p.length 0 < n ∧ debtF q p p.length 0 ≠ q ∧ rd p (debtF q p p.length 0) < 0 := by
 rcases debtF_ok q p p.length 0 with ⟨h1, _⟩ | ⟨h1, h2, h3⟩
 ·omega
 ·exact ⟨by omega, by omega, h3⟩
end Go.Proofs.Ytkcbinohpdhbgaa.Cf
end

section
namespace Go.Proofs.Ytkcbinohpdhbgaa.Cf
set_option linter.unusedVariables false
set_option linter.unusedSimpArgs false
open Go.RowKit Go.Proofs.YtkcbinohpdhbgaaW.PrintWords Go.Proofs.Ytkcbinohpdhbgaa.P
theorem implFire_l0 (n : Nat) (es : List E) (hes : ∀ e ∈ es, EOk n e) (hel : es.length ≤ 12) (d : List Int) (v t : Int) (hd : d.length = n) (hv : 0 ≤ v ∧ v < n) {B K : Int} (hK : 0 ≤ K ∧ 0 ≤ B) (hbd : Bd d B) (ht : -K ≤ t ∧ t ≤ K) (hB : B + 12 * K ≤ 4611686018427387904) :
  ∀ (k i : Nat) (x : List Int), i + k = es.length → Less (es.take i) d (one v t) x → Bd x (B + K * i) → Ep (fun r => impl_fire.l0 r x v t es (es.length : Int) (i : Int)) (fun r => Less es d (one v t) r ∧ Bd r (B + 12 * K)) := by
 intro k
 induction k with
 | zero =>
  intro i x hi hx hb
  obtain rfl : i = es.length := by omega
  refine Ep.up ?_
  simp only [impl_fire.l0]
  refine Ep.neg (by omega) (Ep.now ⟨?_, hb.mono ?_⟩)
  ·rw [List.take_length] at hx
   exact hx
  ·have : K * (es.length : Int) ≤ K * 12 := Int.mul_le_mul_of_nonneg_left (by omega) (by omega)
   omega
 | succ k ih =>
  intro i x hi hx hb
  have hlt : i < es.length := by omega
  have he := hes _ (List.getElem_mem hlt)
  unfold EOk at he
  have hxl : x.length = n := hx.1.trans hd
  have hi12 : K * (i : Int) ≤ K * 12 := Int.mul_le_mul_of_nonneg_left (by omega) (by omega)
  have ba := hb es[i].f0 (by omega) (by omega)
  have bb := hb es[i].f1 (by omega) (by omega)
  have e1 : K * ((i + 1 : Nat) : Int) = K * (i : Int) + K := by
   rw [Int.natCast_add, Int.mul_add]
   omega
  have fin : ∀ x' : List Int, x'.length = x.length → (∀ w : Int, 0 ≤ w → w < n → rd x' w = rd x w - lapE (one v t) w es[i]) → Ep (fun r => impl_fire.l0 r x' v t es (es.length : Int) ((i + 1 : Nat) : Int)) (fun r => Less es d (one v t) r ∧ Bd r (B + 12 * K)) := by
   intro x' hl' key
   refine ih (i + 1) _ (by omega) ⟨by rw [hl']; exact hx.1, ?_⟩ ?_
   ·intro w h0 h1
    rw [key w h0 (by omega), hx.2 w h0 h1, lap_take hlt]
    omega
   ·intro w h0 h1
    have h1' : w < n := by omega
    rw [key w h0 h1', e1]
    have := hb w h0 (by omega)
    unfold lapE one
    (repeat' split) <;> omega
  refine Ep.up ?_
  simp only [impl_fire.l0]
  refine Ep.pos (by omega) (Ep.pos (by omega) (Ep.pos (by omega) ?_))
  rw [rdE_get hlt, wrap_succ (by omega)]
  refine Ep.ite (fun c => ?_) (fun c => Ep.ite (fun c2 => ?_) (fun c2 => ?_))
  ·subst c
   refine Ep.pos (by omega) (Ep.pos (by omega) (Ep.bind0 rfl (Ep.pos (by omega) (Ep.pos (by omega) ?_))))
   rw [rd_set (x := x) (by omega) (by omega) _ (w := es[i].f1) (by omega), if_neg (by omega), wrap_id (x := rd x es[i].f0 - t) (by omega) (by omega), wrap_id (x := rd x es[i].f1 + t) (by omega) (by omega)]
   refine fin _ (by simp) ?_
   intro w h0 h1
   rw [rd_set (by omega) (by rw [List.length_set]; omega) _ h0, rd_set (by omega) (by omega) _ h0]
   unfold lapE one
   by_cases c1 : w = es[i].f1
   ·subst c1; (repeat' split) <;> omega
   ·by_cases c0 : w = es[i].f0
    ·subst c0; (repeat' split) <;> omega
    ·(repeat' split) <;> omega
  ·subst c2
   refine Ep.pos (by omega) (Ep.pos (by omega) (Ep.bind0 rfl (Ep.pos (by omega) (Ep.pos (by omega) ?_))))
   rw [rd_set (x := x) (by omega) (by omega) _ (w := es[i].f0) (by omega), if_neg (by omega), wrap_id (x := rd x es[i].f1 - t) (by omega) (by omega), wrap_id (x := rd x es[i].f0 + t) (by omega) (by omega)]
   refine fin _ (by simp) ?_
   intro w h0 h1
   rw [rd_set (by omega) (by rw [List.length_set]; omega) _ h0, rd_set (by omega) (by omega) _ h0]
   unfold lapE one
   by_cases c1 : w = es[i].f1
   ·subst c1; (repeat' split) <;> omega
   ·by_cases c0 : w = es[i].f0
    ·subst c0; (repeat' split) <;> omega
    ·(repeat' split) <;> omega
  ·refine fin x rfl ?_
   intro w h0 h1
   unfold lapE one
   (repeat' split) <;> omega
theorem implFire (n : Nat) (es : List E) (hes : ∀ e ∈ es, EOk n e) (hel : es.length ≤ 12) (d : List Int) (v t : Int) (hd : d.length = n) (hv : 0 ≤ v ∧ v < n) {B K : Int} (hK : 0 ≤ K ∧ 0 ≤ B) (hbd : Bd d B) (ht : -K ≤ t ∧ t ≤ K) (hB : B + 12 * K ≤ 4611686018427387904) :
  Ep (fun r => impl_fire.f r (n : Int) es d v t) (fun r => Less es d (one v t) r ∧ Bd r (B + 12 * K)) := by
 simp only [impl_fire.f]
 refine implFire_l0 n es hes hel d v t hd hv hK hbd ht hB es.length 0 _ (by omega) ⟨rfl, fun w _ _ => ?_⟩ ?_
 ·simp [lap, sumE]
 ·simpa using hbd
def RotTo (es : List E) (r : List Int) (q : Int) (i : Nat) : Prop := ∀ v : Nat, (h : v < r.length) → v < i → (v : Int) ≠ q → At es r[v] v
theorem RotTo.next {es : List E} {r : List Int} {q : Int} {i : Nat} (h : RotTo es r q i) (hi : i < r.length) (ha : (i : Int) ≠ q → At es r[i] i) : RotTo es r q (i + 1) := by
 intro v hv hvi hq
 by_cases e : v = i
 ·subst e; exact ha hq
 ·exact h v hv (by omega) hq
noncomputable def nextF (es : List E) (v : Int) (idx : Nat) : Nat → Nat → Nat
 | 0, _ => idx
 | d + 1, j => if atB es ((idx + j) % es.length : Nat) v then (idx + j) % es.length else nextF es v idx d (j + 1)
theorem nextF_at {es : List E} {v : Int} {idx : Nat} (ha : At es (idx : Int) v) : ∀ (d j : Nat), At es (nextF es v idx d j : Nat) v
 | 0, _ => ha
 | d + 1, j => by
  unfold nextF
  split
  ·rename_i h
   exact atB_iff.1 h
  ·exact nextF_at ha d (j + 1)
def RInv (n : Nat) (es : List E) (q : Int) (r : List Int) : Prop := r.length = n ∧ ∀ v : Nat, (h : v < r.length) → (v : Int) ≠ q → At es r[v] v
def rotN (r : List Int) (u : Nat) : Nat := (rd r (u : Int)).toNat
noncomputable def nextN (es : List E) (r : List Int) (u : Nat) : Nat := nextF es (u : Int) (rotN r u) (es.length - 1) 1
theorem RInv.rot {n : Nat} {es : List E} {r : List Int} {q : Int} (h : RInv n es q r) {u : Nat} (hu : u < n) (hq : (u : Int) ≠ q) : rd r (u : Int) = (rotN r u : Nat) ∧ rotN r u < es.length ∧ At es (rotN r u : Nat) u := by
 have hl : u < r.length := by rw [h.1]; exact hu
 have ha := h.2 u hl hq
 have hr := ha.range
 have e : rd r (u : Int) = r[u] := rd_get hl
 have e2 : ((rotN r u : Nat) : Int) = r[u] := by unfold rotN; rw [e]; omega
 exact ⟨by rw [e, e2], by omega, by rw [e2]; exact ha⟩
theorem RInv.next {n : Nat} {es : List E} {r : List Int} {q : Int} (h : RInv n es q r) {u : Nat} (hu : u < n) (hq : (u : Int) ≠ q) : nextN es r u < es.length ∧ At es (nextN es r u : Nat) u := by
 have ha := nextF_at (h.rot hu hq).2.2 (es.length - 1) 1
 have := ha.range
 exact ⟨by unfold nextN; omega, ha⟩
theorem copy_eq (l : List Int) (h : l.length ≤ 1048576) : impl_copyInts.f l = some l := by
 unfold impl_copyInts.f
 rw [if_pos (by simp; omega)]
 rfl
theorem Less.congr {n : Nat} {es : List E} (hes : ∀ e ∈ es, EOk n e) {d x : List Int} {s t : Int → Int} (h : Less es d s x) (he : ∀ w : Int, 0 ≤ w → w < n → s w = t w) : Less es d t x :=
 ⟨h.1, fun w h0 h1 => by rw [h.2 w h0 h1, lap_congr hes he]⟩
structure Gr (n : Nat) (es : List E) (q : Int) : Prop where
 n1 : 1 ≤ n
 n6 : n ≤ 6
 hes : ∀ e ∈ es, EOk n e
 hel : es.length ≤ 12
 hj : Joined n es
 hq : 0 ≤ q ∧ q < n
theorem Gr.of {n : Nat} {es : List E} {q : Int} (h : GOk (n : Int) es) (hq : 0 ≤ q ∧ q < n) : Gr n es q := by
 obtain ⟨h1, _, h3⟩ := h
 unfold EsOk at h1
 exact ⟨by omega, by omega, h1.2.2.2, h1.2.2.1, h3, hq⟩
end Go.Proofs.Ytkcbinohpdhbgaa.Cf
end

section
namespace Go.Proofs.Ytkcbinohpdhbgaa.Cf
set_option linter.unusedVariables false
set_option linter.unusedSimpArgs false
open Go.RowKit Go.Proofs.YtkcbinohpdhbgaaW.PrintWords Go.Proofs.YtkcbinohpdhbgaaW.PrintMore Go.Proofs.Ytkcbinohpdhbgaa.P
theorem multE_alt {n : Int} {e : E} (h : EOk n e) {a b : Int} (hab : a ≠ b) : multE a b e = if e.f0 = mn a b ∧ e.f1 = mx a b then 1 else 0 := by
 unfold EOk at h
 unfold multE mn mx
 by_cases c : b < a
 ·rw [if_pos c, if_neg (show ¬ a < b by omega)]
  by_cases x : e.f0 = b ∧ e.f1 = a
  ·rw [if_pos (.inr x), if_pos x]
  ·rw [if_neg (by omega), if_neg x]
 ·rw [if_neg c, if_pos (show a < b by omega)]
  by_cases x : e.f0 = a ∧ e.f1 = b
  ·rw [if_pos (.inl x), if_pos x]
  ·rw [if_neg (by omega), if_neg x]
theorem mult_self {n : Int} {es : List E} (hes : ∀ e ∈ es, EOk n e) (a : Int) : mult es a a = 0 := by
 apply sumE_zero
 intro e he
 have h := hes e he
 unfold EOk at h
 unfold multE
 rw [if_neg (by omega)]
theorem mult_drop {es : List E} {i : Nat} (h : i < es.length) (a b : Int) : mult (es.drop i) a b = multE a b es[i] + mult (es.drop (i + 1)) a b := by
 rw [List.drop_eq_getElem_cons h]
 exact sumE_cons _ _ _
theorem specMult_l0 (n : Int) (es : List E) (hes : ∀ e ∈ es, EOk n e) (hel : es.length ≤ 12) (a b : Int) (hab : a ≠ b) : ∀ (d i : Nat) (c : Int), i + d = es.length → 0 ≤ c → c ≤ i → Ep (fun k => spec_Multiplicity.l0 k a b c es (es.length : Int) (i : Int)) (· = c + mult (es.drop i) a b) := by
 intro d
 induction d with
 | zero =>
  intro i c hi h0 h1
  refine Ep.up ?_
  simp only [spec_Multiplicity.l0]
  refine Ep.neg (by omega) (Ep.now ?_)
  rw [List.drop_of_length_le (by omega)]
  simp [mult, sumE]
 | succ d ih =>
  intro i c hi h0 h1
  have hlt : i < es.length := by omega
  have hk := hes _ (List.getElem_mem hlt)
  refine Ep.up ?_
  simp only [spec_Multiplicity.l0]
  refine Ep.pos (by omega) (Ep.pos (by omega) (Ep.pos (by omega) ?_))
  rw [rdE_get hlt, wrap_succ (by omega), wrap_id (x := c + 1) (by omega) (by omega), mult_drop hlt, multE_alt hk hab]
  refine Ep.ite (fun h => Ep.ite (fun h2 => ?_) (fun h2 => ?_)) (fun h => ?_)
  ·rw [if_pos ⟨h, h2⟩]
   refine (ih (i + 1) (c + 1) (by omega) (by omega) (by omega)).mono ?_
   rintro _ rfl
   omega
  ·rw [if_neg (fun x => h2 x.2)]
   refine (ih (i + 1) c (by omega) (by omega) (by omega)).mono ?_
   rintro _ rfl
   omega
  ·rw [if_neg (fun x => h x.1)]
   refine (ih (i + 1) c (by omega) (by omega) (by omega)).mono ?_
   rintro _ rfl
   omega
theorem l02Vert_eq (n : Int) (es : List E) (v : Int) : spec_l02Vert.f n es v = some (decide (0 ≤ v ∧ v < n)) := by
 unfold spec_l02Vert.f
 by_cases h : v ≥ 0
 ·rw [if_pos h]
  have : (0 ≤ v ∧ v < n) ↔ v < n := ⟨fun x => x.2, fun x => ⟨h, x⟩⟩
  simp only [this]
 ·rw [if_neg h]
  have : ¬ (0 ≤ v ∧ v < n) := fun x => h x.1
  simp only [this, decide_false]
theorem specMult (n : Int) (es : List E) (hes : ∀ e ∈ es, EOk n e) (hel : es.length ≤ 12) (a b : Int) (ha : 0 ≤ a ∧ a < n) (hb : 0 ≤ b ∧ b < n) : Ep (fun k => spec_Multiplicity.f k n es a b) (· = mult es a b) := by
 simp only [spec_Multiplicity.f]
 refine Ep.bind0 (l02Vert_eq _ _ _) (Ep.pos (by simpa using ha) (Ep.bind0 (l02Vert_eq _ _ _) (Ep.pos (by simpa using hb) ?_)))
 refine Ep.up ?_
 simp only [spec_Multiplicity.j0]
 refine Ep.ite (fun h => Ep.now ?_) (fun h => ?_)
 ·have : a = b := by simpa using h
  rw [this, mult_self hes]
 ·have hab : a ≠ b := by simpa using h
  refine (specMult_l0 n es hes hel a b hab es.length 0 0 (by omega) (by omega) (by omega)).mono ?_
  rintro _ rfl
  simp
theorem implMult_l0 (n : Int) (es : List E) (hes : ∀ e ∈ es, EOk n e) (hel : es.length ≤ 12) (a b : Int) (hab : a ≠ b) : ∀ (d i : Nat) (c : Int), i + d = es.length → 0 ≤ c → c ≤ i → Ep (fun k => impl_Multiplicity.l0 k a b c es (es.length : Int) (i : Int)) (· = c + mult (es.drop i) a b) := by
 intro d
 induction d with
 | zero =>
  intro i c hi h0 h1
  refine Ep.up ?_
  simp only [impl_Multiplicity.l0]
  refine Ep.neg (by omega) (Ep.now ?_)
  rw [List.drop_of_length_le (by omega)]
  simp [mult, sumE]
 | succ d ih =>
  intro i c hi h0 h1
  have hlt : i < es.length := by omega
  have hk := hes _ (List.getElem_mem hlt)
  refine Ep.up ?_
  simp only [impl_Multiplicity.l0]
  refine Ep.pos (by omega) (Ep.pos (by omega) (Ep.pos (by omega) ?_))
  rw [rdE_get hlt, wrap_succ (by omega), wrap_id (x := c + 1) (by omega) (by omega), mult_drop hlt, multE_alt hk hab]
  refine Ep.ite (fun h => Ep.ite (fun h2 => ?_) (fun h2 => ?_)) (fun h => ?_)
  ·rw [if_pos ⟨h, h2⟩]
   refine (ih (i + 1) (c + 1) (by omega) (by omega) (by omega)).mono ?_
   rintro _ rfl
   omega
  ·rw [if_neg (fun x => h2 x.2)]
   refine (ih (i + 1) c (by omega) (by omega) (by omega)).mono ?_
   rintro _ rfl
   omega
  ·rw [if_neg (fun x => h x.1)]
   refine (ih (i + 1) c (by omega) (by omega) (by omega)).mono ?_
   rintro _ rfl
   omega
theorem implMult (n : Int) (es : List E) (hes : ∀ e ∈ es, EOk n e) (hel : es.length ≤ 12) (a b : Int) (ha : 0 ≤ a ∧ a < n) (hb : 0 ≤ b ∧ b < n) : Ep (fun k => impl_Multiplicity.f k n es a b) (· = mult es a b) := by
 simp only [impl_Multiplicity.f]
 refine Ep.neg (by unfold mn; split <;> omega) (Ep.neg (by unfold mx; split <;> omega) ?_)
 refine Ep.up ?_
 simp only [impl_Multiplicity.j0]
 refine Ep.ite (fun h => Ep.now ?_) (fun h => ?_)
 ·have : a = b := by simpa using h
  rw [this, mult_self hes]
 ·have hab : a ≠ b := by simpa using h
  refine (implMult_l0 n es hes hel a b hab es.length 0 0 (by omega) (by omega) (by omega)).mono ?_
  rintro _ rfl
  simp
def idxF (x : Int) : List Int → Nat → Int
 | [], _ => -1
 | a :: r, i => if x = a then i else idxF x r (i + 1)
theorem idxF_drop {l : List Int} {i : Nat} (h : i < l.length) (x : Int) (j : Nat) : idxF x (l.drop i) j = if x = l[i] then (j : Int) else idxF x (l.drop (i + 1)) (j + 1) := by
 rw [List.drop_eq_getElem_cons h]
 rfl
theorem idxF_mem (x : Int) : ∀ (l : List Int) (i : Nat), 0 ≤ idxF x l i ↔ x ∈ l
 | [], i => by simp [idxF]
 | a :: r, i => by
  unfold idxF
  by_cases h : x = a
  ·rw [if_pos h, h]; simp
  ·rw [if_neg h, idxF_mem x r (i + 1)]; simp [h]
theorem index_l0 (l : List Int) (x : Int) (hl : l.length ≤ 1048576) : ∀ (d i : Nat), i + d = l.length → Ep (fun k => slices_Index_int_int.l0 k l x (l.length : Int) (i : Int)) (· = idxF x (l.drop i) i) := by
 intro d
 induction d with
 | zero =>
  intro i hi
  refine Ep.up ?_
  simp only [slices_Index_int_int.l0]
  refine Ep.neg (by omega) (Ep.now ?_)
  rw [List.drop_of_length_le (by omega)]
  rfl
 | succ d ih =>
  intro i hi
  have hlt : i < l.length := by omega
  refine Ep.up ?_
  simp only [slices_Index_int_int.l0]
  refine Ep.pos (by omega) (Ep.pos (by omega) (Ep.pos (by omega) ?_))
  rw [rd_get hlt, wrap_succ (by omega), idxF_drop hlt]
  refine Ep.ite (fun h => Ep.now ?_) (fun h => ?_)
  ·rw [if_pos h]
  ·rw [if_neg h]
   exact ih (i + 1) (by omega)
theorem index_ok (l : List Int) (x : Int) (hl : l.length ≤ 1048576) : Ep (fun k => slices_Index_int_int.f k l x) (· = idxF x l 0) := by
 have := index_l0 l x hl l.length 0 (by omega)
 simp only [slices_Index_int_int.f]
 exact this
theorem contains_ok (l : List Int) (x : Int) (hl : l.length ≤ 1048576) : Ep (fun k => slices_Contains_int_int.f k l x) (· = decide (x ∈ l)) := by
 simp only [slices_Contains_int_int.f]
 refine Ep.bind (index_ok l x hl) ?_
 rintro _ rfl
 refine Ep.now ?_
 have := idxF_mem x l 0
 simp only [ge_iff_le, this]
theorem burnSum_bd {es : List E} (hel : es.length ≤ 12) (v : Int) : ∀ (b : List Int), 0 ≤ burnSum es b v ∧ burnSum es b v ≤ 12 * b.length
 | [] => by simp [burnSum]
 | a :: r => by
  have ih := burnSum_bd hel v r
  have h0 := mult_nonneg es v a
  have h1 := mult_le es v a
  unfold burnSum at ih ⊢
  rw [List.map_cons, List.sum_cons, List.length_cons]
  omega
theorem implBurn_l2 {n : Nat} {es : List E} {q : Int} (g : Gr n es q) (d : List Int) (hd : d.length = n) (b : List Int) (hok : b.Nodup ∧ ∀ v ∈ b, 0 ≤ v ∧ v < n) (hbl : b.length ≤ n) (v : Nat) (hv : v < n) {Q : List Int → Prop}
  (hk : Ep (fun k => impl_burn.l1 k d b (if (v : Int) ∉ b ∧ rd d v < burnSum es b v then (v : Int) else -1) ((v + 1 : Nat) : Int) (n : Int) es) Q) :
  ∀ (dd i : Nat), i + dd = b.length → Ep (fun k => impl_burn.l2 k d b (-1) (v : Int) (burnSum es (b.take i) v) b (b.length : Int) (i : Int) (n : Int) es) Q := by
 have hn := g.n6
 have hel := g.hel
 intro dd
 induction dd with
 | zero =>
  intro i hi
  rw [List.take_of_length_le (by omega)]
  refine Ep.up ?_
  simp only [impl_burn.l2]
  have hw := wrap_succ (i := v) (by omega)
  rw [hw]
  refine Ep.neg (by omega) ?_
  refine Ep.bind (contains_ok b v (by omega)) ?_
  rintro _ rfl
  refine Ep.ite (fun h => ?_) (fun h => ?_)
  ·have h' : (v : Int) ∈ b := by simpa using h
   rw [if_neg (fun y => y.1 h')] at hk
   exact hk
  ·have h' : (v : Int) ∉ b := by simpa using h
   refine Ep.pos (by omega) (Ep.pos (by omega) (Ep.ite (fun h2 => ?_) (fun h2 => ?_)))
   ·rw [if_pos ⟨h', h2⟩] at hk
    exact hk
   ·rw [if_neg (fun y => h2 y.2)] at hk
    exact hk
 | succ dd ih =>
  intro i hi
  have hlt : i < b.length := by omega
  have hbi := hok.2 _ (List.getElem_mem hlt)
  have hb := burnSum_bd hel v (b.take i)
  have hml := mult_le es v b[i]
  have hm0 := mult_nonneg es v b[i]
  rw [List.length_take] at hb
  have e : burnSum es (b.take (i + 1)) v = burnSum es (b.take i) v + mult es v b[i] := by
   unfold burnSum
   rw [List.take_succ_eq_append_getElem hlt, List.map_append, List.sum_append]
   simp
  have ih' := ih (i + 1) (by omega)
  rw [e] at ih'
  refine Ep.up ?_
  simp only [impl_burn.l2]
  refine Ep.pos (by omega) (Ep.pos (by omega) (Ep.pos (by omega) ?_))
  rw [rd_get hlt, wrap_succ (by omega)]
  refine Ep.bind (implMult n es g.hes hel v b[i] (by omega) hbi) ?_
  rintro _ rfl
  rw [wrap_id (by omega) (by omega)]
  exact ih'
theorem implBurn_l1 {n : Nat} {es : List E} {q : Int} (g : Gr n es q) (d : List Int) (hd : d.length = n) (b : List Int) (hok : b.Nodup ∧ ∀ v ∈ b, 0 ≤ v ∧ v < n) (hbl : b.length ≤ n) {Q : List Int → Prop}
  (hk : Ep (fun k => if nextB es (rd d) b n 0 < 0 then some b else (if b.length < 17592186044416 then impl_burn.l0 k d (b ++ [nextB es (rd d) b n 0]) (n : Int) es else none)) Q) :
  ∀ (dd i : Nat), i + dd = n → nextB es (rd d) b n 0 = nextB es (rd d) b dd i → Ep (fun k => impl_burn.l1 k d b (-1) (i : Int) (n : Int) es) Q := by
 have hn := g.n6
 intro dd
 induction dd with
 | zero =>
  intro i hi he
  rw [he] at hk
  simp only [nextB] at hk
  refine Ep.up ?_
  simp only [impl_burn.l1]
  refine Ep.neg (by omega) (Ep.up ?_)
  simp only [impl_burn.j2]
  exact Ep.neg (by simp) hk
 | succ dd ih =>
  intro i hi he
  refine Ep.up ?_
  simp only [impl_burn.l1]
  refine Ep.pos (by omega) (Ep.up ?_)
  simp only [impl_burn.j2]
  refine Ep.pos (by simp) ?_
  have h2 := implBurn_l2 (Q := Q) g d hd b hok hbl i (by omega) ?_ b.length 0 (by omega)
  ·simpa [burnSum] using h2
  ·replace he : nextB es (rd d) b n 0 = (if (i : Int) ∉ b ∧ rd d i < burnSum es b i then (i : Int) else nextB es (rd d) b dd (i + 1)) := he
   by_cases h : (i : Int) ∉ b ∧ rd d i < burnSum es b i
   ·rw [if_pos h] at he ⊢
    rw [he] at hk
    refine Ep.up ?_
    simp only [impl_burn.l1]
    refine Ep.ite (fun _ => ?_) (fun _ => ?_)
    ·refine Ep.up ?_
     simp only [impl_burn.j2]
     exact Ep.neg (by simp) hk
    ·refine Ep.up ?_
     simp only [impl_burn.j2]
     exact Ep.neg (by simp) hk
   ·rw [if_neg h] at he ⊢
    exact ih (i + 1) (by omega) he
theorem implBurn_l0 {n : Nat} {es : List E} {q : Int} (g : Gr n es q) (d : List Int) (hd : d.length = n) : ∀ (k : Nat) (b : List Int), n + 1 ≤ b.length + k → Burn n es (rd d) q b → Ep (fun f => impl_burn.l0 f d b (n : Int) es) (· = burnW n es (rd d) k b) := by
 have hn := g.n6
 intro k
 induction k with
 | zero =>
  intro b hl hb
  have := hb.len g.hq
  omega
 | succ k ih =>
  intro b hl hb
  have hok := hb.ok g.hq
  have hlen := hb.len g.hq
  refine Ep.up ?_
  simp only [impl_burn.l0]
  refine implBurn_l1 (Q := (· = burnW n es (rd d) (k + 1) b)) g d hd b ⟨hok.1, hok.2.1⟩ hlen ?_ n 0 (by omega) rfl
  unfold burnW
  have hnx := nextB_ok es (rd d) b n 0
  generalize nextB es (rd d) b n 0 = v at hnx ⊢
  refine Ep.ite (fun h => Ep.now ?_) (fun h => ?_)
  ·rw [if_pos h]
  ·rw [if_neg h]
   rcases hnx with ⟨h2, _⟩ | ⟨h2, h3, h4, h5⟩
   ·omega
   ·exact Ep.pos (by omega) (ih _ (by simp; omega) (hb.step (by omega) (by omega) h4 h5))
theorem implBurn {n : Nat} {es : List E} {q : Int} (g : Gr n es q) (d : List Int) (hd : d.length = n) : Ep (fun k => impl_burn.f k (n : Int) es d q) (· = burnF n es (rd d) q) := by
 have hn := g.n6
 simp only [impl_burn.f]
 exact implBurn_l0 g d hd n [q] (by simp; omega) .start
def Cur (b : List Int) (i : Int) : Prop := 0 ≤ i ∧ i ≤ b.length
theorem and255 (y : Int) : 0 ≤ Go.bits .and .i64 y 255 ∧ Go.bits .and .i64 y 255 ≤ 255 := by
 have h : ((BitVec.ofInt 64 y) &&& (BitVec.ofInt 64 255)).toNat ≤ 255 := by
  rw [BitVec.toNat_and]
  exact Nat.le_trans Nat.and_le_right (by decide)
 have e : Go.bits .and .i64 y 255 = (((BitVec.ofInt 64 y) &&& (BitVec.ofInt 64 255)).toNat : Int) := by
  show Go.IntKind.wrap .i64 _ = _
  have e0 : ∀ m : Nat, m ≤ 255 → Go.IntKind.wrap .i64 (m : Int) = m := by
   intro m hm
   exact (wraps_i64 m (by omega) (by omega))
  exact e0 _ h
 rw [e]
 omega
theorem byte_ok {b : List Int} (hb : b.length ≤ 1048576) {i : Int} (h : Int) (hc : Cur b i) : ∃ x i' h', spec_l01Byte.f b i h = some (x, i', h') ∧ 0 ≤ x ∧ x ≤ 255 ∧ Cur b i' := by
 unfold Cur at *
 unfold spec_l01Byte.f
 split
 ·rw [if_pos hc.1]
  exact ⟨_, _, _, rfl, (and255 _).1, (and255 _).2, by rw [wrap_id (by omega) (by omega)]; omega⟩
 ·exact ⟨_, _, _, rfl, (and255 _).1, (and255 _).2, hc⟩
theorem below_ok {b : List Int} (hb : b.length ≤ 1048576) {i : Int} (h : Int) (hc : Cur b i) {a : Int} (h0 : 1 ≤ a) (h1 : a ≤ 256) : ∃ x i' h', spec_l01Below.f b i h a = some (x, i', h') ∧ 0 ≤ x ∧ x < a ∧ Cur b i' := by
 obtain ⟨x, i', h', e, x0, x1, hc'⟩ := byte_ok hb h hc
 refine ⟨Int.tmod x a, i', h', ?_, Int.tmod_nonneg _ x0, Int.tmod_lt_of_pos _ (by omega), hc'⟩
 unfold spec_l01Below.f
 rw [if_neg (by omega), if_pos h1, e]
 show (if a = 0 then none else some _) = _
 rw [if_neg (by omega)]
theorem cur_l0 (b : List Int) (hb : b.length ≤ 1048576) : ∀ (d i : Nat) (h : Int), i + d = b.length → Ep (fun k => spec_l01New.l0 k b h (i : Int)) (fun r => r.1 = b ∧ Cur b r.2.1) := by
 intro d
 induction d with
 | zero =>
  intro i h hi
  refine Ep.up ?_
  simp only [spec_l01New.l0]
  exact Ep.neg (by omega) (Ep.now ⟨rfl, by unfold Cur; simp⟩)
 | succ d ih =>
  intro i h hi
  refine Ep.up ?_
  simp only [spec_l01New.l0]
  refine Ep.pos (by omega) (Ep.ite (fun _ => Ep.pos (by omega) ?_) (fun _ => Ep.now ⟨rfl, by unfold Cur; simp⟩))
  rw [wrap_succ (by omega)]
  exact ih (i + 1) _ (by omega)
theorem cur_new (b : List Int) (hb : b.length ≤ 1048576) : Ep (fun k => spec_l01New.f k b) (fun r => r.1 = b ∧ Cur b r.2.1) := by
 simp only [spec_l01New.f]
 exact cur_l0 b hb b.length 0 _ (by omega)
theorem cur2_l0 (b : List Int) (hb : b.length ≤ 1048576) (n : Nat) (hn : n ≤ 1000) : ∀ (d j : Nat) (i h : Int), j + d = n → Cur b i → Ep (fun k => spec_l21New.l0 k (n : Int) (j : Int) b i h) (fun r => r.1 = b ∧ Cur b r.2.1) := by
 intro d
 induction d with
 | zero =>
  intro j i h hj hc
  refine Ep.up ?_
  simp only [spec_l21New.l0]
  exact Ep.neg (by omega) (Ep.now ⟨rfl, hc⟩)
 | succ d ih =>
  intro j i h hj hc
  obtain ⟨x, i', h', e, _, _, hc'⟩ := byte_ok hb h hc
  refine Ep.up ?_
  simp only [spec_l21New.l0]
  refine Ep.pos (by omega) (Ep.bind0 e ?_)
  rw [wrap_succ (by omega)]
  exact ih (j + 1) i' h' (by omega) hc'
theorem cur2_new (b : List Int) (hb : b.length ≤ 1048576) (n : Nat) (hn : n ≤ 1000) : Ep (fun k => spec_l21New.f k b (n : Int)) (fun r => r.1 = b ∧ Cur b r.2.1) := by
 simp only [spec_l21New.f]
 refine Ep.bind (cur_new b hb) ?_
 rintro ⟨b', i, h⟩ ⟨rfl, hc⟩
 exact cur2_l0 _ hb n hn n 0 i h (by omega) hc
theorem makeNum (b : List Int) (hb : b.length ≤ 1048576) (n : Nat) (hn : n ≤ 1000) : Ep (fun k => spec_MakeNum.f k b (n : Int)) (fun r => 0 ≤ r ∧ r ≤ 65535) := by
 simp only [spec_MakeNum.f]
 refine Ep.bind (cur2_new b hb n hn) ?_
 rintro ⟨b', i, h⟩ ⟨rfl, hc⟩
 obtain ⟨x, i1, h1, e1, x0, x1, hc1⟩ := byte_ok hb h hc
 refine Ep.bind0 e1 ?_
 obtain ⟨y, i2, h2, e2, y0, y1, hc2⟩ := byte_ok hb h1 hc1
 refine Ep.bind0 e2 (Ep.now ?_)
 dsimp only
 rw [wrap_id (x := x * 256) (by omega) (by omega), wrap_id (by omega) (by omega)]
 omega
theorem addE_true (es : List E) (hel : es.length ≤ 12) (n : Int) (e : E) : ∀ (d i : Nat) (acc : List E), i + d = es.length → acc.length ≤ i + 1 → Ep (fun k => spec_AddEdge.l0 k true es (es.length : Int) (i : Int) e.f0 e.f1 n acc) (· = (n, acc ++ es.drop i, true)) := by
 intro d
 induction d with
 | zero =>
  intro i acc hi ha
  refine Ep.up ?_
  simp only [spec_AddEdge.l0]
  refine Ep.neg (by omega) (Ep.pos trivial (Ep.now ?_))
  rw [List.drop_of_length_le (by omega), List.append_nil]
 | succ d ih =>
  intro i acc hi ha
  have hlt : i < es.length := by omega
  refine Ep.up ?_
  simp only [spec_AddEdge.l0]
  refine Ep.pos (by omega) (Ep.pos (by omega) (Ep.pos (by omega) (Ep.pos trivial (Ep.pos (by omega) ?_))))
  rw [rdE_get hlt, wrap_succ (by omega)]
  refine (ih (i + 1) _ (by omega) (by simp; omega)).mono ?_
  rintro _ rfl
  rw [List.drop_eq_getElem_cons hlt, List.append_assoc]
  rfl
theorem insE_cons (e x : E) (r : List E) : insE e (x :: r) = if x.f0 > e.f0 ∨ (x.f0 = e.f0 ∧ x.f1 > e.f1) then e :: x :: r else x :: insE e r := rfl
theorem addE_l0 (es : List E) (hel : es.length ≤ 12) (n : Int) (e : E) : ∀ (d i : Nat) (acc : List E), i + d = es.length → acc.length ≤ i → Ep (fun k => spec_AddEdge.l0 k false es (es.length : Int) (i : Int) e.f0 e.f1 n acc) (· = (n, acc ++ insE e (es.drop i), true)) := by
 intro d
 induction d with
 | zero =>
  intro i acc hi ha
  refine Ep.up ?_
  simp only [spec_AddEdge.l0]
  refine Ep.neg (by omega) (Ep.neg (by simp) (Ep.pos (by omega) (Ep.now ?_)))
  rw [List.drop_of_length_le (by omega)]
  rfl
 | succ d ih =>
  intro i acc hi ha
  have hlt : i < es.length := by omega
  refine Ep.up ?_
  simp only [spec_AddEdge.l0]
  refine Ep.pos (by omega) (Ep.pos (by omega) (Ep.pos (by omega) (Ep.neg (by simp) ?_)))
  rw [rdE_get hlt, wrap_succ (by omega), List.drop_eq_getElem_cons hlt]
  have put : ∀ (hx : es[i].f0 > e.f0 ∨ (es[i].f0 = e.f0 ∧ es[i].f1 > e.f1)), Ep (fun k => (some (acc ++ [(⟨e.f0, e.f1⟩ : E)])).bind fun y => if y.length < 8796093022208 then spec_AddEdge.l0 k true es (es.length : Int) ((i + 1 : Nat) : Int) e.f0 e.f1 n (y ++ [(⟨es[i].f0, es[i].f1⟩ : E)]) else none) (· = (n, acc ++ insE e (es[i] :: es.drop (i + 1)), true)) := by
   intro hx
   refine Ep.bind0 rfl (Ep.pos (by simp; omega) ?_)
   refine (addE_true es hel n e d (i + 1) _ (by omega) (by simp; omega)).mono ?_
   rintro _ rfl
   unfold insE
   rw [if_pos hx]
   simp only [List.append_assoc, List.cons_append, List.nil_append]
  have go : ∀ (hx : ¬ (es[i].f0 > e.f0 ∨ (es[i].f0 = e.f0 ∧ es[i].f1 > e.f1))), Ep (fun k => spec_AddEdge.l0 k false es (es.length : Int) ((i + 1 : Nat) : Int) e.f0 e.f1 n (acc ++ [(⟨es[i].f0, es[i].f1⟩ : E)])) (· = (n, acc ++ insE e (es[i] :: es.drop (i + 1)), true)) := by
   intro hx
   refine (ih (i + 1) _ (by omega) (by simp; omega)).mono ?_
   rintro _ rfl
   rw [List.append_assoc, insE_cons, if_neg hx]
   rfl
  refine Ep.ite (fun h1 => Ep.pos (by omega) (put (.inl h1))) (fun h1 => Ep.ite (fun h2 => Ep.ite (fun h3 => Ep.pos (by omega) (put (.inr ⟨h2, h3⟩))) (fun h3 => Ep.pos (by omega) (go (by omega)))) (fun h2 => Ep.pos (by omega) (go (by omega))))
theorem addE_ok {n : Int} {es : List E} (hg : GOk n es) (a b : Int) : Ep (fun k => spec_AddEdge.f k n es a b) (fun r => r.2.2 = true → r.1 = n ∧ GOk n r.2.1) := by
 have hG := hg.1
 unfold EsOk at hG
 have hw : wrap64 (n - 1) = n - 1 := wrap_id (by omega) (by omega)
 have no : Ep (fun k => spec_AddEdge.j0 k a b true n es) (fun r => r.2.2 = true → r.1 = n ∧ GOk n r.2.1) := by
  refine Ep.up ?_
  simp only [spec_AddEdge.j0]
  exact Ep.pos trivial (Ep.now (fun h => by cases h))
 simp only [spec_AddEdge.f]
 refine Ep.bind (specGraph n es) ?_
 rintro _ rfl
 rw [gOk_iff.2 hg]
 refine Ep.pos rfl (Ep.bind0 (l01In_eq _ _ _) (Ep.ite (fun h1 => ?_) (fun _ => no)))
 refine Ep.bind0 (l01In_eq _ _ _) (Ep.ite (fun h2 => ?_) (fun _ => no))
 rw [decide_eq_true_eq, hw] at h1 h2
 refine Ep.ite (fun _ => no) (fun h3 => ?_)
 refine Ep.up ?_
 simp only [spec_AddEdge.j0]
 refine Ep.ite (fun _ => Ep.now (fun h => by cases h)) (fun h4 => ?_)
 have h5 : es.length ≠ 12 := by
  intro h
  rw [h] at h4
  exact h4 rfl
 refine (addE_l0 es hG.2.2.1 n ⟨mn a b, mx a b⟩ es.length 0 [] (by omega) (by simp)).mono ?_
 rintro _ rfl _
 refine ⟨rfl, gOk_ins hg h5 ?_⟩
 unfold EOk mn mx
 dsimp only
 split <;> split <;> omega
def hTo (t : List E) (n a b : Nat) : List E := (List.range a).flatMap (hRow t n) ++ (List.range b).flatMap fun c => if a < c then List.replicate (mult t a c).toNat ⟨a, c⟩ else []
theorem hTo_start (t : List E) (n a : Nat) : hTo t n a (a + 1) = (List.range a).flatMap (hRow t n) := by
 have h : ((List.range (a + 1)).flatMap fun c => if a < c then List.replicate (mult t a c).toNat (⟨a, c⟩ : E) else []) = [] := List.flatMap_eq_nil_iff.2 fun c hc => by rw [if_neg (by have := List.mem_range.1 hc; omega)]
 unfold hTo
 rw [h, List.append_nil]
theorem hTo_end (t : List E) (n a : Nat) : hTo t n a n = (List.range (a + 1)).flatMap (hRow t n) := by
 unfold hTo
 rw [List.range_succ, List.flatMap_append]
 simp [hRow]
theorem hTo_next (t : List E) (n a b : Nat) (h : a < b) : hTo t n a (b + 1) = hTo t n a b ++ List.replicate (mult t a b).toNat ⟨a, b⟩ := by
 unfold hTo
 rw [List.range_succ (n := b), List.flatMap_append, ← List.append_assoc]
 simp [h]
theorem len_flat_le (C : Nat) (f : Nat → List E) (h : ∀ i, (f i).length ≤ C) : ∀ n : Nat, ((List.range n).flatMap f).length ≤ C * n := by
 intro n
 induction n with
 | zero => simp
 | succ n ih =>
  rw [List.range_succ, List.flatMap_append, List.length_append]
  have := h n
  simp only [List.flatMap_cons, List.flatMap_nil, List.append_nil]
  rw [Nat.mul_succ]
  omega
theorem hTo_len (t : List E) (ht : t.length ≤ 12) (n a b : Nat) (hn : n ≤ 6) (ha : a ≤ 6) (hb : b ≤ 6) : (hTo t n a b).length ≤ 1000 := by
 have hr : ∀ a c : Nat, (if a < c then List.replicate (mult t a c).toNat (⟨a, c⟩ : E) else []).length ≤ 12 := by
  intro a c
  have := mult_le t a c
  split
  ·rw [List.length_replicate]; omega
  ·simp
 have h1 : ∀ a, (hRow t n a).length ≤ 72 := fun a => Nat.le_trans (len_flat_le 12 _ (hr a) n) (by omega)
 have h2 := len_flat_le 72 (hRow t n) h1 a
 have h3 := len_flat_le 12 _ (hr a) b
 unfold hTo
 rw [List.length_append]
 omega
def DrawOk (b : List Int) (most : Int) (r : Int × List E × Int × Int) : Prop := ∃ n : Nat, r.1 = n ∧ 2 ≤ n ∧ (n : Int) ≤ most ∧ GOk (n : Int) r.2.1 ∧ Cur b r.2.2.1
theorem draw_l4 {b : List Int} (hb : b.length ≤ 1048576) {n : Nat} (h2 : 2 ≤ n) (h6 : n ≤ 6) {most : Int} (hm : (n : Int) ≤ most) : ∀ (c : Nat) (es : List E) (i h : Int), c ≤ 10 → GOk (n : Int) es → Cur b i → Ep (fun k => spec_l02Draw.l4 k (n : Int) (c : Int) b i h (n : Int) es) (DrawOk b most) := by
 intro c
 induction c with
 | zero =>
  intro es i h _ hg hc
  refine Ep.up ?_
  simp only [spec_l02Draw.l4]
  exact Ep.neg (by omega) (Ep.now ⟨n, rfl, h2, hm, hg, hc⟩)
 | succ c ih =>
  intro es i h hc10 hg hc
  refine Ep.up ?_
  simp only [spec_l02Draw.l4]
  refine Ep.pos (by omega) ?_
  obtain ⟨x, i1, h1, e1, x0, x1, hc1⟩ := below_ok hb h hc (a := (n : Int)) (by omega) (by omega)
  refine Ep.bind0 e1 ?_
  rw [show wrap64 ((n : Int) - 1) = n - 1 from wrap_id (by omega) (by omega)]
  obtain ⟨y, i2, h2', e2, y0, y1, hc2⟩ := below_ok hb h1 hc1 (a := (n : Int) - 1) (by omega) (by omega)
  refine Ep.bind0 e2 (Ep.neg (by omega) ?_)
  rw [show wrap64 (((c + 1 : Nat) : Int) - 1) = c from by rw [wrap_id (by omega) (by omega)]; omega]
  refine Ep.bind (addE_ok hg _ _) ?_
  rintro ⟨n', es', ok⟩ hr
  refine Ep.ite (fun h3 => ?_) (fun _ => ih es i2 h2' (by omega) hg hc2)
  obtain ⟨h4, h5⟩ := hr h3
  dsimp only at h4 h5
  subst h4
  exact ih es' i2 h2' (by omega) h5 hc2
theorem draw_l3 {b : List Int} {n a c : Int} {t : List E} {i h : Int} {Q : Int × List E × Int × Int → Prop} : ∀ (m : Nat) (acc : List E), m ≤ 20 → acc.length + m ≤ 2000 → Ep (fun k => spec_l02Draw.l2 k n a (wrap64 (c + 1)) b i h n t n (acc ++ List.replicate m ⟨a, c⟩)) Q →
  Ep (fun k => spec_l02Draw.l3 k n a c (m : Int) b i h n t n acc) Q := by
 intro m
 induction m with
 | zero =>
  intro acc _ hl hk
  refine Ep.up ?_
  simp only [spec_l02Draw.l3]
  refine Ep.neg (by omega) ?_
  simpa using hk
 | succ m ih =>
  intro acc hm hl hk
  refine Ep.up ?_
  simp only [spec_l02Draw.l3]
  refine Ep.pos (by omega) (Ep.pos (by omega) ?_)
  rw [show wrap64 (((m + 1 : Nat) : Int) - 1) = m from by rw [wrap_id (by omega) (by omega)]; omega]
  refine ih _ (by omega) (by simp; omega) ?_
  rw [List.append_assoc, show [(⟨a, c⟩ : E)] ++ List.replicate m ⟨a, c⟩ = List.replicate (m + 1) ⟨a, c⟩ from rfl]
  exact hk
theorem draw_l2 {b : List Int} {n : Nat} (h6 : n ≤ 6) {t : List E} (ht : TreeE n t) {i h : Int} {a : Nat} (ha : a < n) {Q : Int × List E × Int × Int → Prop}
  (hk : Ep (fun k => spec_l02Draw.l1 k (n : Int) ((a + 1 : Nat) : Int) b i h (n : Int) t (n : Int) ((List.range (a + 1)).flatMap (hRow t n))) Q) : ∀ (d c : Nat), c + d = n → a < c →
  Ep (fun k => spec_l02Draw.l2 k (n : Int) (a : Int) (c : Int) b i h (n : Int) t (n : Int) (hTo t n a c)) Q := by
 have hl := ht.len
 intro d
 induction d with
 | zero =>
  intro c hc hac
  refine Ep.up ?_
  simp only [spec_l02Draw.l2]
  obtain rfl : c = n := by omega
  refine Ep.neg (by omega) ?_
  rw [wrap_succ (by omega), hTo_end]
  exact hk
 | succ d ih =>
  intro c hc hac
  refine Ep.up ?_
  simp only [spec_l02Draw.l2]
  refine Ep.pos (by omega) (Ep.bind (specMult (n : Int) t ht.ok (by omega) (a : Int) (c : Int) (by omega) (by omega)) ?_)
  rintro _ rfl
  have hm0 := mult_nonneg t (a : Int) (c : Int)
  have hm1 := mult_le t (a : Int) (c : Int)
  have hlen := hTo_len t (by omega) n a c h6 (by omega) (by omega)
  obtain ⟨m, hm⟩ := Int.eq_ofNat_of_zero_le hm0
  rw [hm]
  refine draw_l3 m _ (by omega) (by omega) ?_
  rw [wrap_succ (by omega)]
  have := ih (c + 1) (by omega) (by omega)
  rw [hTo_next t n a c hac, hm] at this
  exact this
theorem draw_l1 {b : List Int} (hb : b.length ≤ 1048576) {n : Nat} (h2 : 2 ≤ n) (h6 : n ≤ 6) {most : Int} (hm : (n : Int) ≤ most) {t : List E} (ht : TreeE n t) {i h : Int} (hc : Cur b i) : ∀ (d a : Nat), a + d = n →
  Ep (fun k => spec_l02Draw.l1 k (n : Int) (a : Int) b i h (n : Int) t (n : Int) ((List.range a).flatMap (hRow t n))) (DrawOk b most) := by
 intro d
 induction d with
 | zero =>
  intro a ha
  refine Ep.up ?_
  simp only [spec_l02Draw.l1]
  obtain rfl : a = n := by omega
  refine Ep.neg (by omega) ?_
  obtain ⟨x, i1, h1, e1, x0, x1, hc1⟩ := below_ok hb h hc (a := 5) (by omega) (by omega)
  refine Ep.bind0 e1 ?_
  obtain ⟨c, rfl⟩ := Int.eq_ofNat_of_zero_le x0
  exact draw_l4 hb h2 h6 hm c _ i1 h1 (by omega) (ht.gOk h6) hc1
 | succ d ih =>
  intro a ha
  refine Ep.up ?_
  simp only [spec_l02Draw.l1]
  refine Ep.pos (by omega) ?_
  rw [wrap_succ (by omega), ← hTo_start]
  exact draw_l2 h6 ht (by omega) (ih (a + 1) (by omega)) (n - (a + 1)) (a + 1) (by omega) (by omega)
theorem draw_l0 {b : List Int} (hb : b.length ≤ 1048576) {n : Nat} (h2 : 2 ≤ n) (h6 : n ≤ 6) {most : Int} (hm : (n : Int) ≤ most) : ∀ (d v : Nat) (t : List E) (i h : Int), v + d = n → 1 ≤ v → TreeE v t → Cur b i →
  Ep (fun k => spec_l02Draw.l0 k (n : Int) (v : Int) b i h (v : Int) t) (DrawOk b most) := by
 intro d
 induction d with
 | zero =>
  intro v t i h hv h1 ht hc
  refine Ep.up ?_
  simp only [spec_l02Draw.l0]
  obtain rfl : v = n := by omega
  refine Ep.neg (by omega) ?_
  exact draw_l1 hb h2 h6 hm ht hc v 0 (by omega)
 | succ d ih =>
  intro v t i h hv h1 ht hc
  have hl := ht.len
  refine Ep.up ?_
  simp only [spec_l02Draw.l0]
  obtain ⟨x, i1, h1', e1, x0, x1, hc1⟩ := below_ok hb h hc (a := (v : Int)) (by omega) (by omega)
  refine Ep.pos (by omega) (Ep.bind0 e1 (Ep.pos (by omega) ?_))
  rw [wrap_succ (by omega)]
  exact ih (v + 1) _ i1 h1' (by omega) (by omega) (ht.next x0 x1) hc1
theorem draw_ok {b : List Int} (hb : b.length ≤ 1048576) {i : Int} (h : Int) (hc : Cur b i) {most : Int} (h3 : 2 ≤ most) (h5 : most ≤ 6) : Ep (fun k => spec_l02Draw.f k b i h most) (DrawOk b most) := by
 simp only [spec_l02Draw.f]
 rw [wrap_id (x := most - 1) (by omega) (by omega)]
 obtain ⟨x, i1, h1, e1, x0, x1, hc1⟩ := below_ok hb h hc (a := most - 1) (by omega) (by omega)
 refine Ep.bind0 e1 ?_
 dsimp only
 obtain ⟨c, rfl⟩ := Int.eq_ofNat_of_zero_le x0
 rw [show wrap64 (2 + (c : Int)) = ((2 + c : Nat) : Int) from by rw [wrap_id (by omega) (by omega)]; omega]
 exact draw_l0 hb (by omega) (by omega) (by omega) (1 + c) 1 [] i1 h1 (by omega) (by omega) .start hc1
theorem makeGraph (b : List Int) (hb : b.length ≤ 1048576) : Ep (fun k => spec_MakeGraph.f k b) (fun r => ∃ n : Nat, r.1 = n ∧ 2 ≤ n ∧ n ≤ 5 ∧ GOk (n : Int) r.2) := by
 simp only [spec_MakeGraph.f]
 refine Ep.bind (cur_new b hb) ?_
 rintro ⟨b', i, h⟩ ⟨rfl, hc⟩
 refine Ep.bind (P := DrawOk b' 5) ?_ ?_
 ·simp only [spec_l02Graph.f]
  refine Ep.bind (draw_ok hb h hc (by omega) (by omega)) ?_
  intro a ha
  exact Ep.now ha
 ·rintro ⟨n', es, _, _⟩ ⟨n, hn, h2, h5, hg, _⟩
  exact Ep.now ⟨n, hn, h2, by omega, hg⟩
structure Pl (n : Nat) (q : Int) (p : List Int) : Prop where
 len : p.length = n
 bd : ∀ y ∈ p, 0 ≤ y ∧ y ≤ 6
 hq : rd p q = 0
end Go.Proofs.Ytkcbinohpdhbgaa.Cf
end

section
namespace Go.Proofs.Ytkcbinohpdhbgaa.Cf
set_option linter.unusedVariables false
set_option linter.unusedSimpArgs false
open Go.RowKit Go.Proofs.YtkcbinohpdhbgaaW.PrintWords Go.Proofs.Ytkcbinohpdhbgaa.P
def Mod (l : List Int) : Prop := ∀ x ∈ l, -1000000000 ≤ x ∧ x ≤ 1000000000
theorem implSum_l0 (l : List Int) (hl : l.length ≤ 1048576) (hm : Mod l) : ∀ (d i : Nat) (a : Int), i + d = l.length → -(1000000000 * (i : Int)) ≤ a → a ≤ 1000000000 * (i : Int) → Ep (fun k => impl_sumOf.l0 k a l (l.length : Int) (i : Int)) (· = a + (l.drop i).sum) := by
 intro d
 induction d with
 | zero =>
  intro i a hi h0 h1
  refine Ep.up ?_
  simp only [impl_sumOf.l0]
  refine Ep.neg (by omega) (Ep.now ?_)
  rw [List.drop_of_length_le (by omega)]
  simp
 | succ d ih =>
  intro i a hi h0 h1
  have hlt : i < l.length := by omega
  have hx := hm _ (List.getElem_mem hlt)
  refine Ep.up ?_
  simp only [impl_sumOf.l0]
  refine Ep.pos (by omega) (Ep.pos (by omega) (Ep.pos (by omega) ?_))
  rw [rd_get hlt, wrap_succ (by omega), wrap_id (by omega) (by omega), List.drop_eq_getElem_cons hlt]
  refine (ih (i + 1) _ (by omega) (by omega) (by omega)).mono ?_
  rintro _ rfl
  rw [List.sum_cons]
  omega
theorem implSum (l : List Int) (hl : l.length ≤ 1048576) (hm : Mod l) : Ep (fun k => impl_sumOf.f k l) (· = l.sum) := by
 simp only [impl_sumOf.f]
 refine (implSum_l0 l hl hm l.length 0 0 (by omega) (by omega) (by omega)).mono ?_
 rintro _ rfl
 simp
theorem specSum_l0 (l : List Int) (hl : l.length ≤ 1048576) (hm : Mod l) : ∀ (d i : Nat) (a : Int), i + d = l.length → -(1000000000 * (i : Int)) ≤ a → a ≤ 1000000000 * (i : Int) → Ep (fun k => spec_DegreeOf.l0 k a l (l.length : Int) (i : Int)) (· = a + (l.drop i).sum) := by
 intro d
 induction d with
 | zero =>
  intro i a hi h0 h1
  refine Ep.up ?_
  simp only [spec_DegreeOf.l0]
  refine Ep.neg (by omega) (Ep.now ?_)
  rw [List.drop_of_length_le (by omega)]
  simp
 | succ d ih =>
  intro i a hi h0 h1
  have hlt : i < l.length := by omega
  have hx := hm _ (List.getElem_mem hlt)
  refine Ep.up ?_
  simp only [spec_DegreeOf.l0]
  refine Ep.pos (by omega) (Ep.pos (by omega) (Ep.pos (by omega) ?_))
  rw [rd_get hlt, wrap_succ (by omega), wrap_id (by omega) (by omega), List.drop_eq_getElem_cons hlt]
  refine (ih (i + 1) _ (by omega) (by omega) (by omega)).mono ?_
  rintro _ rfl
  rw [List.sum_cons]
  omega
theorem specSum (l : List Int) (hl : l.length ≤ 1048576) (hm : Mod l) : Ep (fun k => spec_DegreeOf.f k l) (· = l.sum) := by
 simp only [spec_DegreeOf.f]
 refine (specSum_l0 l hl hm l.length 0 0 (by omega) (by omega) (by omega)).mono ?_
 rintro _ rfl
 simp
theorem implDebt_l0 (q : Int) (p : List Int) (hl : p.length ≤ 1048576) : ∀ (d i : Nat), i + d = p.length → Ep (fun k => impl_inDebt.l0 k q p (p.length : Int) (i : Int)) (· = debtF q p d i) := by
 intro d
 induction d with
 | zero =>
  intro i hi
  refine Ep.up ?_
  simp only [impl_inDebt.l0]
  exact Ep.neg (by omega) (Ep.now rfl)
 | succ d ih =>
  intro i hi
  refine Ep.up ?_
  simp only [impl_inDebt.l0]
  refine Ep.pos (by omega) (Ep.pos (by omega) (Ep.pos (by omega) ?_))
  rw [wrap_succ (by omega)]
  unfold debtF
  refine Ep.ite (fun h => ?_) (fun h => ?_)
  ·rw [if_pos h]
   exact ih (i + 1) (by omega)
  ·rw [if_neg h]
   refine Ep.ite (fun h2 => Ep.now ?_) (fun h2 => ?_)
   ·rw [if_pos h2]
   ·rw [if_neg h2]
    exact ih (i + 1) (by omega)
theorem implDebt (p : List Int) (q : Int) (hl : p.length ≤ 1048576) : Ep (fun k => impl_inDebt.f k p q) (· = debtF q p p.length 0) := by
 simp only [impl_inDebt.f]
 exact implDebt_l0 q p hl p.length 0 (by omega)
def Owed (n : Nat) (es : List E) (q : Int) (d : List Int) (t : Int → Int) : Prop := Legal n es q (dual es (rd d)) t
theorem Owed.bds {n : Nat} {es : List E} {q : Int} (g : Gr n es q) {d : List Int} (hd : d.length = n) (hb : Bd d 1000) {t : Int → Int} (h : Owed n es q d t) :
  (∀ v : Int, 0 ≤ v → v < n → 0 ≤ t v ∧ t v ≤ 36432) ∧ sumN n (fun i => t (i : Int)) ≤ 218592 ∧ t q = 0 ∧ ∀ w : Int, 0 ≤ w → w < n → -440000 ≤ rd d w + lap es t w ∧ rd d w + lap es t w ≤ 440000 := by
 have h1 := Legal.small g.n6 g.hes g.hj g.hq h (c := 1012) (by omega) (fun v h0 h1 h2 => by
  unfold dual
  have := hb v h0 (by omega)
  have := val_le es v
  have := g.hel
  omega)
 refine ⟨fun v h0 h2 => by have := h1.1 v h0 h2; omega, by omega, h.nonneg.2, fun w h0 h2 => ?_⟩
 have h3 := lap_bd g.hes g.hel (s := t) (L := 0) (S := 36432) (by omega) (fun v h0 h2 => by have := h1.1 v h0 h2; omega) w
 have := hb w h0 (by omega)
 omega
theorem Owed.zero {n : Nat} {es : List E} {q : Int} {d : List Int} : Owed n es q d (fun _ => 0) := Legal.zero
structure Sec (n : Nat) (es : List E) (q : Int) (d : List Int) (t u : Int → Int) : Prop where
 ow : Owed n es q d t
 sets : Sets n es q (fun v => rd d v + lap es t v) u
theorem Sec.bds {n : Nat} {es : List E} {q : Int} (g : Gr n es q) {d : List Int} (hd : d.length = n) (hb : Bd d 1000) {t u : Int → Int} (h : Sec n es q d t u) :
  (∀ v : Int, 0 ≤ v → v < n → 0 ≤ u v ∧ u v ≤ 15840000) ∧ sumN n (fun i => u (i : Int)) ≤ 95040000 ∧ (∀ v : Int, 0 ≤ v → v < n → -15880000 ≤ u v - t v ∧ u v - t v ≤ 15880000) ∧ ∀ w : Int, 0 ≤ w → w < n → -200000000 ≤ rd d w + lap es t w - lap es u w ∧ rd d w + lap es t w - lap es u w ≤ 200000000 := by
 have h1 := h.ow.bds g hd hb
 have h2 := h.sets.small g.n6 g.hes g.hj g.hq (c := 440000) (by omega) (fun v h0 h2 _ => (h1.2.2.2 v h0 h2).2)
 refine ⟨fun v h0 h3 => by have := h2.1 v h0 h3; omega, by omega, fun v h0 h3 => by have := h2.1 v h0 h3; have := h1.1 v h0 h3; omega, fun w h0 h3 => ?_⟩
 have h4 := lap_bd g.hes g.hel (s := u) (L := 0) (S := 15840000) (by omega) (fun v h0 h2' => by have := h2.1 v h0 h2'; omega) w
 have := h1.2.2.2 w h0 h3
 omega
theorem Sec.done {n : Nat} {es : List E} {q : Int} (g : Gr n es q) {d : List Int} {t u : Int → Int} (h : Sec n es q d t u) {s x : List Int} (hs : Rep n s (fun w => u w - t w)) (hx : Rep n x (fun w => rd d w + lap es t w - lap es u w)) {b : List Int} (hbu : Burn n es (rd x) q b) (hl : b.length = n) : Reduced n es q d (x, s) := by
 refine ⟨hx.1, hs.1, hbu.red g.hes g.hq hl (fun v v0 v1 v2 => ?_), ?_, fun v v0 v1 => ?_⟩
 ·rw [hx.2 v v0 v1]
  exact h.sets.keeps v v0 v1 v2
 ·have e : rd s q = u q - t q := hs.2 q g.hq.1 g.hq.2
  show rd s q = 0
  rw [e, h.sets.at_q, h.ow.nonneg.2]
  rfl
 ·have e : rd x v = rd d v + lap es t v - lap es u v := hx.2 v v0 v1
  show rd x v = rd d v - lap es (rd s) v
  rw [e, lap_congr g.hes (t := fun w => u w - t w) hs.2, lap_sub]
  omega
def unbTo (b : List Int) (i : Int) (v : Int) : Int := if v < i then unb b v else 0
theorem unbTo_succ {b : List Int} {i : Int} (hm : i ∉ b) (v : Int) : unbTo b (i + 1) v = unbTo b i v + one i 1 v := by
 unfold unbTo one
 by_cases c : v = i
 ·rw [c, if_pos (by omega), if_neg (by omega), if_pos rfl, unb_not hm]; rfl
 ·rw [if_neg c]
  by_cases c2 : v < i
  ·rw [if_pos (by omega), if_pos c2]; omega
  ·rw [if_neg (by omega), if_neg c2]; rfl
theorem unbTo_stay {b : List Int} {i : Int} (hm : i ∈ b) (v : Int) : unbTo b (i + 1) v = unbTo b i v := by
 unfold unbTo
 by_cases c : v = i
 ·rw [c, if_pos (by omega), if_neg (by omega), unb_mem hm]
 ·by_cases c2 : v < i
  ·rw [if_pos (by omega), if_pos c2]
  ·rw [if_neg (by omega), if_neg c2]
theorem unbTo_01 (b : List Int) (i v : Int) : 0 ≤ unbTo b i v ∧ unbTo b i v ≤ 1 := by
 unfold unbTo
 split
 ·by_cases h : v ∈ b
  ·rw [unb_mem h]; omega
  ·rw [unb_not h]; omega
 ·omega
theorem implRed_l2 {n : Nat} {es : List E} {q : Int} (g : Gr n es q) {d : List Int} (hd : d.length = n) (hb : Bd d 1000) {t u : Int → Int} (h : Sec n es q d t u) (b : List Int) (hbl : b.length ≤ 6) {Q : List Int × List Int → Prop}
  (hk : ∀ s x : List Int, Rep n s (fun w => u w + unb b w - t w) → Rep n x (fun w => rd d w + lap es t w - lap es (fun w => u w + unb b w) w) → Ep (fun k => impl_reduce.l1 k q x s (n : Int) es) Q) :
  ∀ (dd i : Nat) (s x : List Int), i + dd = n → Rep n s (fun w => u w + unbTo b i w - t w) → Rep n x (fun w => rd d w + lap es t w - lap es (fun w => u w + unbTo b i w) w) → Ep (fun k => impl_reduce.l2 k q x s b (n : Int) (i : Int) (n : Int) es) Q := by
 have hn := g.n6
 have hbd := h.bds g hd hb
 intro dd
 induction dd with
 | zero =>
  intro i s x hi hs hx
  obtain rfl : i = n := by omega
  refine Ep.up ?_
  simp only [impl_reduce.l2]
  refine Ep.neg (by omega) (hk s x (hs.congr fun w _ w1 => by unfold unbTo; rw [if_pos w1]) (hx.congr fun w _ _ => ?_))
  rw [lap_congr g.hes (s := fun w => u w + unbTo b i w) (t := fun w => u w + unb b w) (fun v _ v1 => by unfold unbTo; rw [if_pos v1])]
 | succ dd ih =>
  intro i s x hi hs hx
  have hsl := hs.1
  have hxl := hx.1
  have hsi : rd s (i : Int) = u i + unbTo b i i - t i := hs.2 i (by omega) (by omega)
  have h1 := hbd.2.2.1 i (by omega) (by omega)
  have h2 := unbTo_01 b i i
  refine Ep.up ?_
  simp only [impl_reduce.l2]
  rw [wrap_succ (by omega)]
  refine Ep.pos (by omega) (Ep.bind (contains_ok b i (by omega)) ?_)
  rintro _ rfl
  refine Ep.ite (fun hm => ?_) (fun hm => ?_)
  ·have hm' : (i : Int) ∈ b := by simpa using hm
   have e : unbTo b ((i : Int) + 1) = unbTo b i := funext fun w => unbTo_stay hm' w
   refine ih (i + 1) s x (by omega) (hs.congr fun w _ _ => ?_) (hx.congr fun w _ _ => ?_)
   ·rw [Int.natCast_succ, e]
   ·simp only [Int.natCast_succ, e]
  ·have hm' : (i : Int) ∉ b := by simpa using hm
   have hbx : Bd x 1000000000 := hx.bd fun w w0 w1 => by
    have h3 := hbd.2.2.2 w w0 w1
    have h4 := lap_bd g.hes g.hel (s := unbTo b i) (L := 0) (S := 1) (by omega) (fun v _ _ => by have := unbTo_01 b i v; omega) w
    rw [lap_add]
    omega
   refine Ep.bind (implFire n es g.hes g.hel x i 1 hxl ⟨by omega, by omega⟩ (B := 1000000000) (K := 1) ⟨by omega, by omega⟩ hbx (by omega) (by omega)) ?_
   rintro r ⟨hr, _⟩
   refine Ep.pos (by omega) (Ep.pos (by omega) ?_)
   rw [hsi, wrap_id (by omega) (by omega)]
   refine ih (i + 1) _ r (by omega) ((hs.set (v := (i : Int)) (by omega) (by omega) _).congr fun w _ _ => ?_) ((hr.rep hxl).congr fun w w0 w1 => ?_)
   ·rw [Int.natCast_succ, unbTo_succ hm']
    unfold one
    by_cases e : w = i
    ·rw [if_pos e, if_pos e, e]; omega
    ·rw [if_neg e, if_neg e]; omega
   ·have hxw : rd x w = rd d w + lap es t w - lap es (fun w => u w + unbTo b i w) w := hx.2 w w0 w1
    have e : (fun w => u w + unbTo b ((i + 1 : Nat) : Int) w) = fun w => (fun w => u w + unbTo b i w) w + one (i : Int) 1 w := by
     funext w
     show u w + unbTo b ((i + 1 : Nat) : Int) w = u w + unbTo b i w + one (i : Int) 1 w
     rw [Int.natCast_succ, unbTo_succ hm']
     omega
    rw [e, lap_add, hxw]
    omega
theorem implRed_l1 {n : Nat} {es : List E} {q : Int} (g : Gr n es q) {d : List Int} (hd : d.length = n) (hb : Bd d 1000) {t : Int → Int} : ∀ (k : Nat) (u : Int → Int) (s x : List Int), 95040000 < sumN n (fun i => u (i : Int)) + k → Sec n es q d t u → Rep n s (fun w => u w - t w) → Rep n x (fun w => rd d w + lap es t w - lap es u w) →
  Ep (fun f => impl_reduce.l1 f q x s (n : Int) es) (Reduced n es q d) := by
 have hn := g.n6
 intro k
 induction k with
 | zero =>
  intro u s x hm h _ _
  have := h.bds g hd hb
  omega
 | succ k ih =>
  intro u s x hm h hs hx
  have hxl := hx.1
  have hsl := hs.1
  have hbo := burnF_ok (es := es) (d := rd x) g.hq
  have hlen := hbo.1.len g.hq
  refine Ep.up ?_
  simp only [impl_reduce.l1]
  refine Ep.bind (implBurn g x hxl) ?_
  rintro b rfl
  generalize burnF n es (rd x) q = b at hbo hlen ⊢
  refine Ep.ite (fun h2 => Ep.now ?_) (fun h2 => ?_)
  ·exact h.done g hs hx hbo.1 (by omega)
  ·have hex := unburnt_some (n := n) (b := b) (by omega)
   have hst : Sec n es q d t (fun w => u w + unb b w) := ⟨h.ow, h.sets.step g.hes g.hq hx.2 hbo.1 hbo.2⟩
   have e : ∀ w : Int, 0 ≤ w → u w + unbTo b ((0 : Nat) : Int) w = u w := fun w w0 => by unfold unbTo; rw [if_neg (by omega)]; omega
   rw [hsl]
   refine implRed_l2 g hd hb h b (by omega) (fun s' x' hs' hx' => ih (fun w => u w + unb b w) s' x' ?_ hst hs' hx') n 0 s x (by omega) (hs.congr fun w w0 _ => ?_) (hx.congr fun w w0 w1 => ?_)
   ·have h9 : sumN n (fun i => u (i : Int)) + 1 ≤ sumN n (fun i => u (i : Int) + unb b (i : Int)) := sum_unb (u := u) hex
    omega
   ·rw [e w w0]
   ·rw [lap_congr g.hes (s := u) (t := fun w => u w + unbTo b ((0 : Nat) : Int) w) (fun v v0 _ => (e v v0).symm)]
theorem implRed_l0 {n : Nat} {es : List E} {q : Int} (g : Gr n es q) {d : List Int} (hd : d.length = n) (hb : Bd d 1000) : ∀ (k : Nat) (t : Int → Int) (s x : List Int), 218592 < sumN n (fun i => t (i : Int)) + k → Owed n es q d t → Rep n s (fun w => - t w) → Rep n x (fun w => rd d w + lap es t w) →
  Ep (fun f => impl_reduce.l0 f q x s (debtF q x x.length 0) (n : Int) es) (Reduced n es q d) := by
 have hn := g.n6
 have hel := g.hel
 have hz : ∀ w, lap es (fun _ => 0) w = 0 := fun w => lap_const (c := 0) (fun _ _ => ⟨rfl, rfl⟩) w
 intro k
 induction k with
 | zero =>
  intro t s x hm ho _ _
  have := ho.bds g hd hb
  omega
 | succ k ih =>
  intro t s x hm ho hs hx
  have hxl := hx.1
  have hsl := hs.1
  have hbd := ho.bds g hd hb
  refine Ep.up ?_
  simp only [impl_reduce.l0]
  refine Ep.ite (fun h => ?_) (fun h => ?_)
  ·have hp := debt_pos (q := q) hxl (by omega)
   generalize debtF q x x.length 0 = v at hp ⊢
   obtain ⟨h0, h1, h2, h3⟩ := hp
   have hvp := val_pos g.hj g.hq ⟨h0, h1⟩ h2
   have hvl := val_le es v
   have hxv : rd x v = rd d v + lap es t v := hx.2 v h0 h1
   have hsv : rd s v = - t v := hs.2 v h0 h1
   have hxb := hbd.2.2.2 v h0 h1
   have htv := hbd.1 v h0 h1
   have hdv := Int.ediv_mul_le (val es v - 1 - rd x v) (b := val es v) (by omega)
   have hd0 : 1 ≤ (val es v - 1 - rd x v) / val es v := (Int.le_ediv_iff_mul_le hvp).2 (by omega)
   have hdm : (val es v - 1 - rd x v) / val es v ≤ val es v - 1 - rd x v := Int.ediv_le_self _ (by omega)
   have htd : Int.tdiv (val es v - 1 - rd x v) (val es v) = (val es v - 1 - rd x v) / val es v := Int.tdiv_eq_ediv_of_nonneg (by omega)
   have hbx : Bd x 1000000 := hx.bd fun w w0 w1 => by
    have := hbd.2.2.2 w w0 w1
    omega
   refine Ep.bind (implValence n es v (by omega)) ?_
   rintro _ rfl
   rw [valG_in ⟨h0, h1⟩]
   refine Ep.pos (by omega) (Ep.pos (by omega) (Ep.neg (by omega) ?_))
   rw [wrap_id (x := val es v - 1) (by omega) (by omega), wrap_id (x := val es v - 1 - rd x v) (by omega) (by omega), htd, wrap_id (x := (val es v - 1 - rd x v) / val es v) (by omega) (by omega)]
   generalize (val es v - 1 - rd x v) / val es v = m at hdv hd0 hdm ⊢
   obtain ⟨m, rfl⟩ := Int.eq_ofNat_of_zero_le (a := m) (by omega)
   rw [wrap_id (x := -(m : Int)) (by omega) (by omega)]
   refine Ep.bind (implFire n es g.hes g.hel x v (-(m : Int)) hxl ⟨h0, h1⟩ (B := 1000000) (K := 1000000) ⟨by omega, by omega⟩ hbx (by omega) (by omega)) ?_
   rintro r ⟨hr, _⟩
   have hr' := hr.rep hxl
   have hrl := hr'.1
   have ho' : Owed n es q d (fun w => t w + one v m w) := Legal.many g.hes ho h0 h1 h2 m (by unfold dual; omega)
   refine Ep.pos (by omega) ?_
   refine Ep.bind (implDebt r q (by omega)) ?_
   rintro _ rfl
   rw [hsv, wrap_id (x := - t v - (m : Int)) (by omega) (by omega)]
   refine ih (fun w => t w + one v m w) _ r ?_ ho' ((hs.set h0 h1 _).congr fun w _ _ => ?_) (hr'.congr fun w w0 w1 => ?_)
   ·rw [sum_grow h0 h1]
    omega
   ·unfold one
    by_cases e : w = v
    ·rw [if_pos e, if_pos e, e]; omega
    ·rw [if_neg e, if_neg e]; omega
   ·have h5 : rd x w = rd d w + lap es t w := hx.2 w w0 w1
    have e : one v (-(m : Int)) = fun w => - one v m w := by
     funext w
     unfold one
     split <;> omega
    rw [h5, lap_add, e, lap_neg]
    omega
  ·have hp := debt_neg (q := q) hxl (by omega)
   refine implRed_l1 g hd hb 95040001 (fun _ => 0) s x ?_ ⟨ho, Sets.zero fun v v0 v1 v2 => ?_⟩ (hs.congr fun w _ _ => by omega) (hx.congr fun w _ _ => by rw [hz]; omega)
   ·simp only [sumN_zero]; omega
   ·have h3 := hp v v0 v1 v2
    have h4 : rd x v = rd d v + lap es t v := hx.2 v v0 v1
    omega
theorem implReduce' {n : Nat} {es : List E} {q : Int} (g : Gr n es q) {d : List Int} (hd : d.length = n) (hb : Bd d 1000) : Ep (fun k => impl_reduce.f k (n : Int) es d q) (Reduced n es q d) := by
 have hn := g.n6
 have hz : ∀ w, lap es (fun _ => 0) w = 0 := fun w => lap_const (c := 0) (fun _ _ => ⟨rfl, rfl⟩) w
 simp only [impl_reduce.f]
 refine Ep.bind0 (copy_eq d (by omega)) (Ep.pos (by omega) (Ep.pos (by omega) ?_))
 refine Ep.bind (implDebt d q (by omega)) ?_
 rintro _ rfl
 refine implRed_l0 g hd hb 218593 (fun _ => 0) _ d ?_ .zero (Rep.zero n) ((Rep.self hd).congr fun w _ _ => by rw [hz]; omega)
 simp only [sumN_zero]; omega
theorem implReduce {n : Nat} {es : List E} {q : Int} (g : Gr n es q) {d : List Int} (hd : d.length = n) (hb : Bd d 1000) : Ep (fun k => impl_reduce.f k (n : Int) es d q) (· = reduceS n es q d) := (implReduce' g hd hb).mono fun _ hr => hr.eq g.hes g.hq
theorem reduceS_ok {n : Nat} {es : List E} {q : Int} (g : Gr n es q) {d : List Int} (hd : d.length = n) (hb : Bd d 1000) : Reduced n es q d (reduceS n es q d) := by
 obtain ⟨r, hr, _⟩ := implReduce' g hd hb
 rw [← hr.eq g.hes g.hq]
 exact hr
end Go.Proofs.Ytkcbinohpdhbgaa.Cf
end

section
namespace Go.Proofs.Ytkcbinohpdhbgaa.Cf
set_option linter.unusedVariables false
set_option linter.unusedSimpArgs false
open Go.RowKit Go.Proofs.YtkcbinohpdhbgaaW.PrintWords
theorem dOk_all {n : Int} {es : List E} {d : List Int} (h : dOk n es d = true) : ∃ m : Nat, n = m ∧ (∀ q : Int, 0 ≤ q → q < n → Gr m es q) ∧ 1 ≤ m ∧ m ≤ 6 ∧ d.length = m ∧ Bd d 60 ∧ Mod d := by
 obtain ⟨h1, h2, h3⟩ := dOk_iff.1 h
 obtain ⟨m, rfl⟩ := Int.eq_ofNat_of_zero_le (a := n) (by omega)
 have hg := h1.1
 unfold EsOk at hg
 exact ⟨m, rfl, fun q q0 q1 => Gr.of h1 ⟨q0, q1⟩, by omega, by omega, by omega, Bd.of60 h3, fun x hx => by have := h3 x hx; omega⟩
end Go.Proofs.Ytkcbinohpdhbgaa.Cf
end

section
namespace Go.Proofs.Ytkcbinohpdhbgaa.Cf
set_option linter.unusedVariables false
set_option linter.unusedSimpArgs false
open Go.RowKit Go.Proofs.YtkcbinohpdhbgaaW.PrintWords Go.Proofs.Ytkcbinohpdhbgaa.P
def plusL (a b : List Int) : List Int := repL a.length fun w => rd a w + rd b w
def negL (a : List Int) : List Int := repL a.length fun w => - rd a w
theorem implPlus_l0 (a b : List Int) (n : Nat) (hn : n ≤ 1048576) (ha : a.length = n) (hb : b.length = n) (ba : Bd a 1000000000) (bb : Bd b 1000000000) : ∀ (d i : Nat) (x : List Int), i + d = n → Rep n x (fun w => if w < i then rd a w + rd b w else rd a w) → Ep (fun k => impl_plus.l0 k b x (n : Int) (i : Int)) (· = plusL a b) := by
 intro d
 induction d with
 | zero =>
  intro i x hi hx
  obtain rfl : i = n := by omega
  refine Ep.up ?_
  simp only [impl_plus.l0]
  refine Ep.neg (by omega) (Ep.now ?_)
  unfold plusL
  rw [ha]
  exact (hx.congr fun w _ w1 => by rw [if_pos w1]).eq
 | succ d ih =>
  intro i x hi hx
  have hxl := hx.1
  have h1 := ba i (by omega) (by omega)
  have h2 := bb i (by omega) (by omega)
  have hxi : rd x (i : Int) = rd a (i : Int) := by
   have h9 := hx.2 i (by omega) (by omega)
   simp only [if_neg (show ¬ (i : Int) < i by omega)] at h9
   exact h9
  refine Ep.up ?_
  simp only [impl_plus.l0]
  refine Ep.pos (by omega) (Ep.pos (by omega) (Ep.pos (by omega) (Ep.pos (by omega) ?_)))
  rw [wrap_succ (by omega), hxi, wrap_id (by omega) (by omega)]
  refine ih (i + 1) _ (by omega) ((hx.set (v := (i : Int)) (by omega) (by omega) _).congr fun w _ _ => ?_)
  by_cases e : w = i
  ·rw [if_pos e, if_pos (by omega), e]
  ·rw [if_neg e]
   by_cases e2 : w < i
   ·rw [if_pos e2, if_pos (by omega)]
   ·rw [if_neg e2, if_neg (by omega)]
theorem implPlus (a b : List Int) (hl : a.length ≤ 1048576) (hab : a.length = b.length) (ba : Bd a 1000000000) (bb : Bd b 1000000000) : Ep (fun k => impl_plus.f k a b) (· = plusL a b) := by
 simp only [impl_plus.f]
 refine Ep.bind0 (copy_eq a hl) ?_
 exact implPlus_l0 a b a.length hl rfl hab.symm ba bb a.length 0 a (by omega) ((Rep.self rfl).congr fun w w0 _ => by rw [if_neg (by omega)])
theorem implNeg_l0 (a : List Int) (n : Nat) (hn : n ≤ 1048576) (ha : a.length = n) (ba : Bd a 1000000000) : ∀ (d i : Nat) (x : List Int), i + d = n → Rep n x (fun w => if w < i then - rd a w else rd a w) → Ep (fun k => impl_NegateDivisor.l0 k x (n : Int) (i : Int)) (· = negL a) := by
 intro d
 induction d with
 | zero =>
  intro i x hi hx
  obtain rfl : i = n := by omega
  refine Ep.up ?_
  simp only [impl_NegateDivisor.l0]
  refine Ep.neg (by omega) (Ep.now ?_)
  unfold negL
  rw [ha]
  exact (hx.congr fun w _ w1 => by rw [if_pos w1]).eq
 | succ d ih =>
  intro i x hi hx
  have hxl := hx.1
  have h1 := ba i (by omega) (by omega)
  have hxi : rd x (i : Int) = rd a (i : Int) := by
   have h9 := hx.2 i (by omega) (by omega)
   simp only [if_neg (show ¬ (i : Int) < i by omega)] at h9
   exact h9
  refine Ep.up ?_
  simp only [impl_NegateDivisor.l0]
  refine Ep.pos (by omega) (Ep.pos (by omega) (Ep.pos (by omega) ?_))
  rw [wrap_succ (by omega), hxi, wrap_id (by omega) (by omega)]
  refine ih (i + 1) _ (by omega) ((hx.set (v := (i : Int)) (by omega) (by omega) _).congr fun w _ _ => ?_)
  by_cases e : w = i
  ·rw [if_pos e, if_pos (by omega), e]
  ·rw [if_neg e]
   by_cases e2 : w < i
   ·rw [if_pos e2, if_pos (by omega)]
   ·rw [if_neg e2, if_neg (by omega)]
theorem implNeg (a : List Int) (hl : a.length ≤ 1048576) (ba : Bd a 1000000000) : Ep (fun k => impl_NegateDivisor.f k a) (· = negL a) := by
 simp only [impl_NegateDivisor.f]
 refine Ep.bind0 (copy_eq a hl) ?_
 exact implNeg_l0 a a.length hl rfl ba a.length 0 a (by omega) ((Rep.self rfl).congr fun w w0 _ => by rw [if_neg (by omega)])
theorem negL_len (a : List Int) : (negL a).length = a.length := by simp [negL, repL_len]
theorem plusL_len (a b : List Int) : (plusL a b).length = a.length := by simp [plusL, repL_len]
theorem negL_bd {a : List Int} {B : Int} (h : Bd a B) : Bd (negL a) B := (repL_rep a.length _).bd fun w h0 h1 => by have := h w h0 h1; omega
theorem plusL_bd {a b : List Int} {A B : Int} (hab : a.length = b.length) (ha : Bd a A) (hb : Bd b B) : Bd (plusL a b) (A + B) := (repL_rep a.length _).bd fun w h0 h1 => by have := ha w h0 h1; have := hb w h0 (by omega); omega
def zOk (n : Int) (es : List E) (d : List Int) : Bool := dOk n es d && (d.sum == 0)
theorem zOk_all {n : Int} {es : List E} {d : List Int} (h : zOk n es d = true) : ∃ m : Nat, n = m ∧ Gr m es 0 ∧ d.length = m ∧ Bd d 60 ∧ d.sum = 0 := by
 unfold zOk at h
 rw [Bool.and_eq_true] at h
 obtain ⟨m, rfl, g, h1, _, hl, hb, _⟩ := dOk_all h.1
 exact ⟨m, rfl, g 0 (by omega) (by omega), hl, hb, by simpa using h.2⟩
theorem implZero (n : Int) (es : List E) (d : List Int) (hl : d.length ≤ 1048576) : Ep (fun k => impl_ofDegreeZero.f k n es d) (· = zOk n es d) := by
 simp only [impl_ofDegreeZero.f, zOk, impl_DegreeOf.f]
 refine Ep.bind (implDiv n es d hl) ?_
 rintro _ rfl
 refine Ep.ite (fun h => ?_) (fun h => Ep.now ?_)
 ·obtain ⟨_, _, _, _, _, _, _, hm⟩ := dOk_all h
  refine Ep.bind (P := (· = d.sum)) (Ep.bind (implSum d hl hm) ?_) ?_
  ·rintro _ rfl
   exact Ep.now rfl
  ·rintro _ rfl
   refine Ep.now ?_
   rw [h]
   rfl
 ·have : dOk n es d = false := by simpa using h
  rw [this]
  rfl
noncomputable def redO (n : Int) (es : List E) (d : List Int) (q : Int) : List Int × Bool := if (dOk n es d && decide (0 ≤ q ∧ q < n)) = true then ((reduceS n.toNat es q d).1, true) else ([], false)
theorem implRedO (n : Int) (es : List E) (d : List Int) (q : Int) (hn : Wf .i64 n) (hl : d.length ≤ 1048576) : Ep (fun k => impl_ReducedOf.f k n es d q) (· = redO n es d q) := by
 simp only [impl_ReducedOf.f, redO]
 refine Ep.bind (implDiv n es d hl) ?_
 rintro _ rfl
 refine Ep.ite (fun h => ?_) (fun h => Ep.now ?_)
 ·refine Ep.bind0 (isVertex_eq n es q hn) ?_
  have hgo := gOk_iff.2 (dOk_iff.1 h).1
  rw [hgo, h]
  simp only [Bool.true_and]
  refine Ep.ite (fun h2 => ?_) (fun h2 => Ep.now ?_)
  ·obtain ⟨m, rfl, g, _, _, hdl, hb, _⟩ := dOk_all h
   have hq : 0 ≤ q ∧ q < (m : Int) := by simpa using h2
   refine Ep.bind (implReduce (g q hq.1 hq.2) hdl (hb.mono (by omega))) ?_
   rintro _ rfl
   refine Ep.now ?_
   rw [if_pos h2]
   rfl
  ·rw [if_neg h2]
 ·have : dOk n es d = false := by simpa using h
  rw [this]
  rfl
end Go.Proofs.Ytkcbinohpdhbgaa.Cf
end

section
namespace Go.Proofs.Ytkcbinohpdhbgaa.Cf
set_option linter.unusedVariables false
set_option linter.unusedSimpArgs false
open Go.Proofs.YtkcbinohpdhbgaaW.PrintWords
theorem red_zero {n : Nat} {es : List E} (hj : Joined n es) {q : Int} (hq : 0 ≤ q ∧ q < n) {d : Int → Int} (hd : ∀ v : Int, 0 ≤ v → v < n → d v = 0) (hes : ∀ e ∈ es, EOk n e) : Red n es q d := by
 refine ⟨fun v h0 h1 _ => by rw [hd v h0 h1]; exact Int.le_refl _, fun S hS hx => ?_⟩
 obtain ⟨b, b0, b1, hb⟩ := hx
 have hc : Conn es q b := ((hj q hq.1 hq.2).symm).trans (hj b b0 b1)
 obtain ⟨u, w, hadj, hu, hw⟩ := exists_cut (S := fun x => S x = true) hc (by rw [hS]; simp) hb
 have hur := EsOk.adj hes hadj.symm
 refine ⟨u, hur.1, hur.2, hu, ?_⟩
 rw [hd u hur.1 hur.2]
 have hw' : S w = false := by simpa using hw
 have hnn : ∀ e ∈ es, 0 ≤ lapE (ind S) u e := by
  intro e _
  unfold lapE ind
  by_cases a : e.f0 = u
  ·by_cases b : e.f1 = u
   ·simp [a, b]
   ·rw [if_pos a, if_neg b, a, hu]
    cases S e.f1 <;> simp
  ·by_cases b : e.f1 = u
   ·rw [if_neg a, if_pos b, b, hu]
    cases S e.f0 <;> simp
   ·simp [a, b]
 obtain ⟨e, he, hx⟩ := hadj
 have h1 := sumE_term hnn he
 have h2 : 1 ≤ lapE (ind S) u e := by
  have hk := hes e he
  unfold EOk at hk
  unfold lapE ind
  rcases hx with ⟨x0, x1⟩ | ⟨x0, x1⟩
  ·rw [if_pos x0, if_neg (show ¬ e.f1 = u by omega), x0, x1, hu, hw']; simp
  ·rw [if_neg (show ¬ e.f0 = u by omega), if_pos x1, x0, x1, hu, hw']; simp
 unfold lap
 omega
def Mul (n : Nat) (es : List E) (a : List Int) (k : Int) (x : List Int) : Prop :=
 x.length = n ∧ Red n es 0 (rd x) ∧ ∃ s : Int → Int, ∀ v : Int, 0 ≤ v → v < n → rd x v = k * rd a v - lap es s v
theorem Mul.unique {n : Nat} (h1 : 1 ≤ n) {es : List E} (hes : ∀ e ∈ es, EOk n e) {a : List Int} {k : Int} {x y : List Int} (hx : Mul n es a k x) (hy : Mul n es a k y) : x = y := by
 obtain ⟨xl, xr, s, hs⟩ := hx
 obtain ⟨yl, yr, t, ht⟩ := hy
 have := red_unique hes (q := 0) ⟨by omega, by omega⟩ xr yr (s := fun v => t v - s v) (fun v v0 v1 => by
  rw [lap_sub, hs v v0 v1, ht v v0 v1]; omega)
 exact (Rep.self xl).ext ((Rep.self yl).congr fun w h0 h1 => this.2 w h0 h1)
theorem Mul.same {n : Nat} {es : List E} {a : List Int} {j k : Int} {x : List Int} (hj : Mul n es a j x) (hk : Mul n es a k x) (hz : Red n es 0 (rd (List.replicate n 0))) : Mul n es a (k - j) (List.replicate n 0) := by
 obtain ⟨xl, xr, s, hs⟩ := hj
 obtain ⟨_, _, t, ht⟩ := hk
 refine ⟨by simp, hz, fun v => t v - s v, fun v v0 v1 => ?_⟩
 rw [rd_replicate, lap_sub, Int.sub_mul]
 have := hs v v0 v1
 have := ht v v0 v1
 omega
theorem Mul.zero {n : Nat} {es : List E} {a : List Int} (hz : Red n es 0 (rd (List.replicate n 0))) : Mul n es a 0 (List.replicate n 0) :=
 ⟨by simp, hz, fun _ => 0, fun v _ _ => by rw [rd_replicate, lap_const (c := 0) (fun _ _ => ⟨rfl, rfl⟩)]; omega⟩
theorem Mul.one {n : Nat} {es : List E} {a : List Int} {r : List Int × List Int} (h : Reduced n es 0 a r) : Mul n es a 1 r.1 :=
 ⟨h.1, h.2.2.1, rd r.2, fun v v0 v1 => by rw [h.2.2.2.2 v v0 v1]; omega⟩
theorem Mul.neg {n : Nat} {es : List E} {a b : List Int} {k : Int} {x : List Int} (hb : ∀ v : Int, 0 ≤ v → v < n → rd b v = - rd a v) (h : Mul n es b k x) : Mul n es a (-k) x := by
 obtain ⟨xl, xr, s, hs⟩ := h
 refine ⟨xl, xr, s, fun v v0 v1 => ?_⟩
 rw [hs v v0 v1, hb v v0 v1, Int.neg_mul, Int.mul_neg]
theorem Mul.add {n : Nat} {es : List E} {a c : List Int} {j k : Int} {x y : List Int} (hx : Mul n es a j x) (hy : Mul n es a k y) (hc : ∀ v : Int, 0 ≤ v → v < n → rd c v = rd x v + rd y v) {r : List Int × List Int} (h : Reduced n es 0 c r) : Mul n es a (j + k) r.1 := by
 obtain ⟨_, _, s, hs⟩ := hx
 obtain ⟨_, _, t, ht⟩ := hy
 refine ⟨h.1, h.2.2.1, fun v => s v + t v + rd r.2 v, fun v v0 v1 => ?_⟩
 rw [h.2.2.2.2 v v0 v1, hc v v0 v1, hs v v0 v1, ht v v0 v1, lap_add, lap_add, Int.add_mul]
 omega
theorem Mul.bd {n : Nat} (hn : 1 ≤ n ∧ n ≤ 6) {es : List E} (hes : ∀ e ∈ es, EOk n e) (hel : es.length ≤ 12) {a : List Int} (ha : a.length = n) (h0 : a.sum = 0) {k : Int} {x : List Int} (h : Mul n es a k x) : x.sum = 0 ∧ ∀ v : Int, 0 ≤ v → v < n → -72 ≤ rd x v ∧ rd x v ≤ 11 := by
 obtain ⟨xl, xr, s, hs⟩ := h
 have hsum : x.sum = 0 := by
  rw [sum_rd n x xl, sumN_congr (g := fun i : Nat => k * rd a i + lap es (fun v => - s v) i) (fun i hi => by
   rw [lap_neg]
   have := hs i (by omega) (by omega)
   omega), sumN_add, lap_sum hes]
  rw [sum_rd n a ha] at h0
  have : sumN n (fun i => k * rd a (i : Int)) = k * sumN n (fun i => rd a (i : Int)) := by
   clear hs xl xr ha h0 hes
   induction n with
   | zero => simp [sumN]
   | succ m ih =>
    simp only [sumN]
    by_cases hm : 1 ≤ m
    ·rw [ih ⟨hm, by omega⟩, Int.mul_add]
    ·obtain rfl : m = 0 := by omega
     simp [sumN]
  rw [this, h0]
  omega
 refine ⟨hsum, fun v v0 v1 => ?_⟩
 by_cases hv : v = 0
 ·subst hv
  have := xr.at_q hn.2 hes hel (by omega)
  rw [← sum_rd n x xl, hsum] at this
  omega
 ·have := xr.lt hes v0 v1 hv
  have := val_le es v
  omega
def code : List Int → Int
 | [] => 0
 | a :: r => (a + 72) + 100 * code r
theorem code_bd : ∀ (l : List Int), (∀ x ∈ l, -72 ≤ x ∧ x ≤ 11) → 0 ≤ code l ∧ code l < 100 ^ l.length
 | [], _ => by simp [code]
 | a :: r, h => by
  have h1 := code_bd r (fun x hx => h x (List.mem_cons_of_mem _ hx))
  have h2 := h a List.mem_cons_self
  unfold code
  rw [List.length_cons, Int.pow_succ]
  omega
theorem code_inj : ∀ (l m : List Int), l.length = m.length → (∀ x ∈ l, -72 ≤ x ∧ x ≤ 11) → (∀ x ∈ m, -72 ≤ x ∧ x ≤ 11) → code l = code m → l = m
 | [], [], _, _, _, _ => rfl
 | [], _ :: _, h, _, _, _ => by simp at h
 | _ :: _, [], h, _, _, _ => by simp at h
 | a :: r, b :: s, hl, h, k, he => by
  have h2 := h a List.mem_cons_self
  have k2 := k b List.mem_cons_self
  unfold code at he
  have h3 : code r = code s := by omega
  rw [code_inj r s (by simpa using hl) (fun x hx => h x (List.mem_cons_of_mem _ hx)) (fun x hx => k x (List.mem_cons_of_mem _ hx)) h3]
  rw [show a = b by omega]
theorem few {n : Nat} (hn : n ≤ 6) {L : List (List Int)} (hL : L.Nodup) (h : ∀ x ∈ L, x.length = n ∧ ∀ y ∈ x, -72 ≤ y ∧ y ≤ 11) : L.length ≤ 1000000000000 := by
 have h1 := nodup_len 1000000000000 (L.map code) (by
  unfold List.Nodup
  rw [List.pairwise_map]
  refine hL.imp_of_mem ?_
  intro x y hx hy hne he
  exact hne (code_inj x y (by rw [(h x hx).1, (h y hy).1]) (h x hx).2 (h y hy).2 he)) (by
  intro v hv
  obtain ⟨x, hx, rfl⟩ := List.mem_map.1 hv
  have h1 := code_bd x (h x hx).2
  have h2 : (100 : Int) ^ x.length ≤ 100 ^ 6 := by
   rw [(h x hx).1]
   have hc : n = 0 ∨ n = 1 ∨ n = 2 ∨ n = 3 ∨ n = 4 ∨ n = 5 ∨ n = 6 := by omega
   rcases hc with rfl | rfl | rfl | rfl | rfl | rfl | rfl <;> decide
  have h3 : (100 : Int) ^ 6 = 1000000000000 := by decide
  omega)
 simpa using h1
def OrdP (n : Nat) (es : List E) (a : List Int) (m : Int) : Prop := 1 ≤ m ∧ Mul n es a m (List.replicate n 0) ∧ ∀ j : Int, 1 ≤ j → j < m → ¬ Mul n es a j (List.replicate n 0)
theorem OrdP.unique {n : Nat} {es : List E} {a : List Int} {m m' : Int} (h : OrdP n es a m) (h' : OrdP n es a m') : m = m' := by
 apply Classical.byContradiction
 intro hne
 rcases Int.lt_or_gt_of_ne hne with c | c
 ·exact h'.2.2 m h.1 c h.2.1
 ·exact h.2.2 m' h'.1 c h'.2.1
open Classical in
noncomputable def ordS (n : Nat) (es : List E) (a : List Int) : Int := if h : ∃ m, OrdP n es a m then Classical.choose h else 0
theorem OrdP.eq {n : Nat} {es : List E} {a : List Int} {m : Int} (h : OrdP n es a m) : m = ordS n es a := by
 have he : ∃ m, OrdP n es a m := ⟨m, h⟩
 unfold ordS
 rw [dif_pos he]
 exact h.unique (Classical.choose_spec he)
def Seen (n : Nat) (es : List E) (a : List Int) (L : List (List Int)) : Prop := ∀ i : Nat, (h : i < L.length) → Mul n es a ((i : Int) + 1) L[i] ∧ L[i] ≠ List.replicate n 0
theorem Seen.nodup {n : Nat} (h1 : 1 ≤ n) {es : List E} (hes : ∀ e ∈ es, EOk n e) {a : List Int} {L : List (List Int)} (hz : Red n es 0 (rd (List.replicate n 0))) (h : Seen n es a L) : L.Nodup := by
 unfold List.Nodup
 rw [List.pairwise_iff_getElem]
 intro i j hi hj hij he
 have hi' := h i hi
 have hj' := h j hj
 have hs := Mul.same (he ▸ hi'.1) hj'.1 hz
 have hk := h (j - i - 1) (by omega)
 have e : (((j - i - 1 : Nat) : Int) + 1) = (j : Int) + 1 - ((i : Int) + 1) := by omega
 rw [e] at hk
 exact hk.2 (hk.1.unique h1 hes hs)
theorem Seen.len {n : Nat} (hn : 1 ≤ n ∧ n ≤ 6) {es : List E} (hes : ∀ e ∈ es, EOk n e) (hel : es.length ≤ 12) {a : List Int} (ha : a.length = n) (h0 : a.sum = 0) {L : List (List Int)} (hz : Red n es 0 (rd (List.replicate n 0))) (h : Seen n es a L) : L.length ≤ 1000000000000 := by
 refine few hn.2 (h.nodup hn.1 hes hz) ?_
 intro x hx
 obtain ⟨i, hi, rfl⟩ := List.getElem_of_mem hx
 have hm := (h i hi).1
 refine ⟨hm.1, fun y hy => ?_⟩
 obtain ⟨j, hj, rfl⟩ := List.getElem_of_mem hy
 have := (hm.bd hn hes hel ha h0).2 j (by omega) (by have := hm.1; omega)
 rw [rd_get hj] at this
 exact this
theorem Seen.push {n : Nat} {es : List E} {a : List Int} {L : List (List Int)} (h : Seen n es a L) {x : List Int} (hx : Mul n es a ((L.length : Int) + 1) x) (hne : x ≠ List.replicate n 0) : Seen n es a (L ++ [x]) := by
 intro i hi
 by_cases c : i < L.length
 ·rw [List.getElem_append_left c]
  exact h i c
 ·have : i = L.length := by simp at hi; omega
  subst this
  simp only [List.getElem_concat_length]
  exact ⟨hx, hne⟩
theorem Seen.ord {n : Nat} (h1 : 1 ≤ n) {es : List E} (hes : ∀ e ∈ es, EOk n e) {a : List Int} {L : List (List Int)} (h : Seen n es a L) (hx : Mul n es a ((L.length : Int) + 1) (List.replicate n 0)) : OrdP n es a ((L.length : Int) + 1) := by
 refine ⟨by omega, hx, fun j h2 h3 hj => ?_⟩
 have hk := h (j - 1).toNat (by omega)
 have e : ((((j - 1).toNat : Nat) : Int) + 1) = j := by omega
 rw [e] at hk
 exact hk.2 (hk.1.unique h1 hes hj)
end Go.Proofs.Ytkcbinohpdhbgaa.Cf
end

section
namespace Go.Proofs.Ytkcbinohpdhbgaa.Cf
set_option linter.unusedVariables false
set_option linter.unusedSimpArgs false
open Go.RowKit Go.Proofs.YtkcbinohpdhbgaaW.PrintWords Go.Proofs.Ytkcbinohpdhbgaa.P
theorem zeros_red {n : Nat} {es : List E} (g : Gr n es 0) : Red n es 0 (rd (List.replicate n 0)) := red_zero g.hj g.hq (fun v _ _ => rd_replicate n v) g.hes
theorem Mul.bd1 {n : Nat} {es : List E} (g : Gr n es 0) {a : List Int} (ha : a.length = n) (h0 : a.sum = 0) {k : Int} {x : List Int} (h : Mul n es a k x) : Bd x 100 := fun w w0 w1 => by
 have := (h.bd ⟨g.n1, g.n6⟩ g.hes g.hel ha h0).2 w w0 (by have := h.1; omega)
 omega
theorem Mul.next {n : Nat} {es : List E} (g : Gr n es 0) {a : List Int} (ha : a.length = n) (h0 : a.sum = 0) {k : Int} {x y : List Int} (hx : Mul n es a k x) (hy : Mul n es a 1 y) : Mul n es a (k + 1) (reduceS n es 0 (plusL x y)).1 := by
 have hl : (plusL x y).length = n := by rw [plusL_len]; exact hx.1
 have hb : Bd (plusL x y) 1000 := (plusL_bd (by rw [hx.1, hy.1]) (hx.bd1 g ha h0) (hy.bd1 g ha h0)).mono (by omega)
 refine hx.add hy (c := plusL x y) (fun v v0 v1 => ?_) (reduceS_ok g hl hb)
 unfold plusL
 exact (repL_rep x.length _).2 v v0 (by rw [hx.1]; exact v1)
theorem zeros_iff {n : Nat} {x : List Int} (hl : x.length = n) : (∀ y ∈ x, 0 ≤ y ∧ y ≤ 0) ↔ x = List.replicate n 0 := by
 constructor
 ·intro h
  rw [List.eq_replicate_iff]
  exact ⟨hl, fun y hy => by have := h y hy; omega⟩
 ·intro h y hy
  rw [h] at hy
  have := List.eq_of_mem_replicate hy
  omega
theorem implOrd_l0 {n : Nat} {es : List E} (g : Gr n es 0) {a y : List Int} (ha : a.length = n) (h0 : a.sum = 0) (hy : Mul n es a 1 y) : ∀ (k : Nat) (L : List (List Int)) (x : List Int), 1000000000000 < L.length + k → Seen n es a L → Mul n es a ((L.length : Int) + 1) x → Ep (fun f => impl_OrderOf.l0 f y x ((L.length : Int) + 1) (n : Int) es) (OrdP n es a) := by
 have hn := g.n6
 intro k
 induction k with
 | zero =>
  intro L x hk hL _
  have := hL.len ⟨g.n1, g.n6⟩ g.hes g.hel ha h0 (zeros_red g)
  omega
 | succ k ih =>
  intro L x hk hL hx
  have hxl := hx.1
  have hyl := hy.1
  have hlen := hL.len ⟨g.n1, g.n6⟩ g.hes g.hel ha h0 (zeros_red g)
  refine Ep.up ?_
  simp only [impl_OrderOf.l0]
  refine Ep.bind (allWithin_ok x 0 0 (by omega)) ?_
  rintro _ rfl
  refine Ep.ite (fun h => Ep.now ?_) (fun h => ?_)
  ·have h' : x = List.replicate n 0 := (zeros_iff hxl).1 (of_decide_eq_true h)
   rw [h'] at hx
   exact hL.ord g.n1 g.hes hx
  ·have h' : x ≠ List.replicate n 0 := fun e => h (decide_eq_true ((zeros_iff hxl).2 e))
   have bx := hx.bd1 g ha h0
   have bY := hy.bd1 g ha h0
   refine Ep.bind (implPlus x y (by omega) (by omega) (bx.mono (by omega)) (bY.mono (by omega))) ?_
   rintro _ rfl
   refine Ep.bind (implReduce g (d := plusL x y) (by rw [plusL_len]; omega) ((plusL_bd (by omega) bx bY).mono (by omega))) ?_
   rintro _ rfl
   rw [wrap_id (by omega) (by omega)]
   have hnx := hx.next g ha h0 hy
   have ih' := ih (L ++ [x]) _ (by simp; omega) (hL.push hx h') (by
    rw [List.length_append, List.length_singleton]
    exact hnx)
   rw [List.length_append, List.length_singleton] at ih'
   exact ih'
noncomputable def ordO (n : Int) (es : List E) (a : List Int) : Int := if zOk n es a = true then ordS n.toNat es a else 0
theorem implOrd (n : Int) (es : List E) (a : List Int) (hl : a.length ≤ 1048576) : Ep (fun k => impl_OrderOf.f k n es a) (· = ordO n es a) := by
 simp only [impl_OrderOf.f, ordO]
 refine Ep.bind (implZero n es a hl) ?_
 rintro _ rfl
 refine Ep.ite (fun h => ?_) (fun h => Ep.now (by rw [if_neg h]))
 rw [if_pos h]
 obtain ⟨m, rfl, g, hla, hba, h0⟩ := zOk_all h
 have hb : Bd a 1000 := hba.mono (by omega)
 have hm := Mul.one (reduceS_ok g hla hb)
 refine Ep.bind (implReduce g hla hb) ?_
 rintro _ rfl
 exact (implOrd_l0 g hla h0 hm 1000000000001 [] _ (by simp) (fun i hi => by simp at hi) hm).mono fun r hr => hr.eq
theorem pick_ok {b : List Int} (hb : b.length ≤ 1048576) {i : Int} (h : Int) (hc : Cur b i) (l : List Int) (h0 : 1 ≤ l.length) (h1 : l.length ≤ 256) : ∃ x i' h', spec_l01Pick.f b i h l = some (x, i', h') ∧ x ∈ l ∧ Cur b i' := by
 obtain ⟨z, i1, h2, e1, z0, z1, hc1⟩ := below_ok hb h hc (a := (l.length : Int)) (by omega) (by omega)
 refine ⟨rd l z, i1, h2, ?_, ?_, hc1⟩
 ·unfold spec_l01Pick.f
  rw [e1, Option.bind_some, if_pos (show (0 : Int) ≤ z from z0), if_pos (show z < (l.length : Int) from z1)]
 ·unfold rd
  rw [List.getD_eq_getElem?_getD, List.getElem?_eq_getElem (by omega)]
  exact List.getElem_mem _
theorem div_l0 {b : List Int} (hb : b.length ≤ 1048576) {n : Nat} (h6 : n ≤ 6) (es : List E) : ∀ (d v : Nat) (x : List Int) (i h : Int), v + d = n → x.length = v → (∀ y ∈ x, -2 ≤ y ∧ y ≤ 6) → Cur b i →
  Ep (fun k => spec_l04Draw.l0 k x (v : Int) b i h (n : Int) es) (fun r => r.1.length = n ∧ ∀ y ∈ r.1, -2 ≤ y ∧ y ≤ 6) := by
 intro d
 induction d with
 | zero =>
  intro v x i h hv hx hy hc
  refine Ep.up ?_
  simp only [spec_l04Draw.l0]
  exact Ep.neg (by omega) (Ep.now ⟨by show x.length = n; omega, hy⟩)
 | succ d ih =>
  intro v x i h hv hx hy hc
  obtain ⟨z, i1, h1, e1, z0, z1, hc1⟩ := below_ok hb h hc (a := 7) (by omega) (by omega)
  obtain ⟨y, i2, h2, e2, hy2, hc2⟩ := pick_ok hb h1 hc1 [0, 1, 2, -1, 3, -2, z] (by simp) (by simp)
  refine Ep.up ?_
  simp only [spec_l04Draw.l0]
  refine Ep.pos (by omega) (Ep.bind0 e1 (Ep.bind0 e2 (Ep.pos (by omega) ?_)))
  rw [wrap_succ (by omega)]
  refine ih (v + 1) _ i2 h2 (by omega) (by simp; omega) ?_ hc2
  intro w hw
  rcases List.mem_append.1 hw with hw | hw
  ·exact hy w hw
  ·rw [List.mem_singleton.1 hw]
   dsimp only
   simp only [List.mem_cons, List.not_mem_nil, or_false] at hy2
   omega
theorem sum_le {B : Int} : ∀ l : List Int, (∀ y ∈ l, y ≤ B) → l.sum ≤ l.length * B
 | [], _ => by simp
 | x :: l, h => by
  have h1 := h x List.mem_cons_self
  have h2 := sum_le l fun y hy => h y (List.mem_cons_of_mem _ hy)
  rw [List.sum_cons, List.length_cons, Int.natCast_add, Int.add_mul]
  simp only [Int.natCast_one, Int.one_mul]
  omega
theorem sum_ge {B : Int} (l : List Int) (h : ∀ y ∈ l, B ≤ y) : l.length * B ≤ l.sum := by
 induction l with
 | nil => simp
 | cons x l ih =>
  have h1 := h x List.mem_cons_self
  have h2 := ih fun y hy => h y (List.mem_cons_of_mem _ hy)
  rw [List.sum_cons, List.length_cons, Int.natCast_add, Int.add_mul]
  simp only [Int.natCast_one, Int.one_mul]
  omega
theorem makeZero (b : List Int) (hb : b.length ≤ 1048576) (m : Nat) (hm : m ≤ 1000) {n : Nat} (h2 : 2 ≤ n) (h5 : n ≤ 5) {es : List E} (hg : GOk (n : Int) es) : Ep (fun k => spec_MakeZero.f k b (m : Int) (n : Int) es) (fun a => zOk (n : Int) es a = true ∧ a.length = n) := by
 simp only [spec_MakeZero.f, spec_MakeDivisor.f, spec_l04Draw.f]
 refine Ep.bind (P := fun a => a.length = n ∧ ∀ y ∈ a, -2 ≤ y ∧ y ≤ 6) (Ep.bind (cur2_new b hb m hm) ?_) ?_
 ·rintro ⟨b', i, h⟩ ⟨rfl, hc⟩
  refine Ep.bind (div_l0 hb (by omega) es n 0 [] i h (by omega) rfl (by simp) hc) ?_
  rintro ⟨x, i2, h2⟩ ⟨hx1, hx2⟩
  exact Ep.now ⟨hx1, hx2⟩
 ·rintro a ⟨hl, hy⟩
  refine Ep.pos (by omega) (Ep.bind (specSum a (by omega) (fun y h => by have := hy y h; omega)) ?_)
  rintro _ rfl
  have hs1 := sum_le a fun y h => (hy y h).2
  have hs2 := sum_ge a fun y h => (hy y h).1
  refine Ep.now ?_
  obtain ⟨x, l, rfl⟩ : ∃ x l, a = x :: l := by
   cases a with
   | nil => simp at hl; omega
   | cons x l => exact ⟨x, l, rfl⟩
  have hx := hy x List.mem_cons_self
  have e : (x :: l).set (0 : Int).toNat (wrap64 (rd (x :: l) 0 - (x :: l).sum)) = (x - (x :: l).sum) :: l := by
   have e1 : rd (x :: l) 0 = x := rfl
   rw [e1, wrap_id (by omega) (by omega)]
   rfl
  rw [e]
  refine ⟨?_, by simpa using hl⟩
  unfold zOk
  rw [Bool.and_eq_true]
  refine ⟨dOk_iff.2 ⟨hg, by simp at hl; simp; omega, fun y h => ?_⟩, ?_⟩
  ·rcases List.mem_cons.1 h with rfl | h
   ·omega
   ·have := hy y (List.mem_cons_of_mem _ h)
    omega
  ·rw [beq_iff_eq, List.sum_cons, List.sum_cons]
   omega
theorem implOneAt {n : Nat} (hn : n ≤ 6) (es : List E) {v t : Int} (hv : 0 ≤ v ∧ v < n) : impl_oneAt.f (n : Int) es v t = some ((List.replicate n 0).set v.toNat t) := by
 unfold impl_oneAt.f
 rw [if_pos (by omega), if_pos (by omega), Option.bind_some, if_pos hv.1, if_pos (by simp; omega), Int.toNat_natCast]
theorem oneAt_rep {n : Nat} {v t : Int} (hv : 0 ≤ v ∧ v < n) : Rep n ((List.replicate n 0).set v.toNat t) (one v t) := ((Rep.zero n).set hv.1 hv.2 t).congr fun w _ _ => rfl
theorem implDiff {n : Nat} {es : List E} (g : Gr n es 0) (hg : GOk (n : Int) es) {u v : Int} (hu : 0 ≤ u ∧ u < n) (hv : 0 ≤ v ∧ v < n) : Ep (fun k => impl_DifferenceClass.f k (n : Int) es u v) (fun r => r.2 = true ∧ r.1.length = n ∧ r.1.sum = 0 ∧ Mod r.1) := by
 have hn := g.n6
 have hwf : Wf .i64 (n : Int) := by simp [Wf, Lit.wf, IntKind.min, IntKind.max, IntKind.signed, IntKind.bits]; omega
 simp only [impl_DifferenceClass.f]
 refine Ep.bind0 (isVertex_eq (n : Int) es u hwf) (Ep.pos (by rw [gOk_iff.2 hg]; simp; omega) (Ep.bind0 (isVertex_eq (n : Int) es v hwf) (Ep.up ?_)))
 simp only [impl_DifferenceClass.j0]
 have r1 := oneAt_rep (n := n) (v := u) (t := 1) hu
 have r2 := oneAt_rep (n := n) (v := v) (t := -1) hv
 have b1 : Bd ((List.replicate n 0).set u.toNat 1) 1 := r1.bd fun w _ _ => by unfold one; split <;> omega
 have b2 : Bd ((List.replicate n 0).set v.toNat (-1)) 1 := r2.bd fun w _ _ => by unfold one; split <;> omega
 refine Ep.neg (by rw [gOk_iff.2 hg]; simp; omega) (Ep.bind0 (implOneAt hn es hu) (Ep.bind0 (implOneAt hn es hv) (Ep.bind (implPlus _ _ (by have := r1.1; omega) (by rw [r1.1, r2.1]) (b1.mono (by omega)) (b2.mono (by omega))) ?_)))
 rintro _ rfl
 have hl : (plusL ((List.replicate n 0).set u.toNat 1) ((List.replicate n 0).set v.toNat (-1))).length = n := by rw [plusL_len, r1.1]
 have hb := (plusL_bd (by rw [r1.1, r2.1]) b1 b2).mono (B' := 1000) (by omega)
 refine Ep.bind (implReduce g hl hb) ?_
 rintro _ rfl
 have hz : (plusL ((List.replicate n 0).set u.toNat 1) ((List.replicate n 0).set v.toNat (-1))).sum = 0 := by
  rw [sum_rd n _ hl, sumN_congr (g := fun i : Nat => one u 1 (i : Int) + one v (-1) (i : Int)) (fun i hi => ?_), sumN_add n (fun i => one u 1 (i : Int)) (fun i => one v (-1) (i : Int)), sumN_one' hu.1 hu.2, sumN_one' hv.1 hv.2]
  ·omega
  ·unfold plusL
   rw [(repL_rep _ _).2 (i : Int) (by omega) (by rw [r1.1]; omega), r1.2 _ (by omega) (by omega), r2.2 _ (by omega) (by omega)]
 have hm := Mul.one (reduceS_ok g hl hb)
 have hs := hm.bd ⟨g.n1, g.n6⟩ g.hes g.hel hl hz
 refine Ep.now ⟨rfl, hm.1, hs.1, fun y hy => ?_⟩
 obtain ⟨w, w0, w1, rfl⟩ := (Rep.self hm.1).mem hy
 have := hs.2 w w0 w1
 omega
end Go.Proofs.Ytkcbinohpdhbgaa.Cf
end

section
namespace Go.Proofs.Ytkcbinohpdhbgaa.Cf
set_option linter.unusedVariables false
set_option linter.unusedSimpArgs false
open Go.RowKit Go.Proofs.YtkcbinohpdhbgaaW.PrintWords
def alt : Nat → (Nat → Int) → Int
 | 0, _ => 0
 | n + 1, g => g 0 - alt n fun i => g (i + 1)
theorem alt_congr : ∀ {n : Nat} {f g : Nat → Int}, (∀ i, i < n → f i = g i) → alt n f = alt n g
 | 0, _, _, _ => rfl
 | n + 1, f, g, h => by
  unfold alt
  rw [h 0 (by omega), alt_congr (n := n) (f := fun i => f (i + 1)) (g := fun i => g (i + 1)) fun i hi => h (i + 1) (by omega)]
theorem alt_zero {n : Nat} {g : Nat → Int} (h : ∀ i, i < n → g i = 0) : alt n g = 0 := by
 induction n generalizing g with
 | zero => rfl
 | succ n ih =>
  unfold alt
  rw [h 0 (by omega), ih fun i hi => h (i + 1) (by omega)]
  rfl
theorem alt_bd {n : Nat} {g : Nat → Int} {C : Int} (h : ∀ i, i < n → -C ≤ g i ∧ g i ≤ C) : -(n * C) ≤ alt n g ∧ alt n g ≤ n * C := by
 induction n generalizing g with
 | zero => simp [alt]
 | succ n ih =>
  have h0 := h 0 (by omega)
  have h1 := ih (g := fun i => g (i + 1)) fun i hi => h (i + 1) (by omega)
  unfold alt
  have e : ((n + 1 : Nat) : Int) * C = n * C + C := by rw [Int.natCast_add, Int.add_mul]; simp
  omega
theorem alt_add (n : Nat) (f g : Nat → Int) : alt n (fun i => f i + g i) = alt n f + alt n g := by
 induction n generalizing f g with
 | zero => rfl
 | succ n ih =>
  unfold alt
  rw [ih (fun i => f (i + 1)) (fun i => g (i + 1))]
  show f 0 + g 0 - _ = _
  omega
theorem alt_mul (n : Nat) (c : Int) (f : Nat → Int) : alt n (fun i => c * f i) = c * alt n f := by
 induction n generalizing f with
 | zero => simp [alt]
 | succ n ih =>
  unfold alt
  rw [ih (fun i => f (i + 1)), Int.mul_sub]
def ent (M : List (List Int)) (r c : Int) : Int := rd (M.getD r.toNat []) c
def detL (M : List (List Int)) : List Int → List Int → Int
 | [], _ => 1
 | r :: rs, cs => alt cs.length fun i => ent M r (cs.getD i 0) * detL M rs (cs.eraseIdx i)
theorem mul_bd {a b A B : Int} (ha : -A ≤ a ∧ a ≤ A) (hb : -B ≤ b ∧ b ≤ B) : -(A * B) ≤ a * b ∧ a * b ≤ A * B := by
 have hA : 0 ≤ A := by omega
 have h1 : a.natAbs * b.natAbs ≤ A.natAbs * B.natAbs := Nat.mul_le_mul (by omega) (by omega)
 rw [← Int.natAbs_mul, ← Int.natAbs_mul] at h1
 have h2 : 0 ≤ A * B := Int.mul_nonneg (by omega) (by omega)
 omega
theorem detL_bd {M : List (List Int)} {B : Int} (hB : 0 ≤ B) (hM : ∀ r c, -B ≤ ent M r c ∧ ent M r c ≤ B) : ∀ (rs cs : List Int), cs.length ≤ 6 → -((6 * B) ^ rs.length) ≤ detL M rs cs ∧ detL M rs cs ≤ (6 * B) ^ rs.length
 | [], cs, _ => by simp [detL]
 | r :: rs, cs, hc => by
  have h := alt_bd (n := cs.length) (g := fun i => ent M r (cs.getD i 0) * detL M rs (cs.eraseIdx i)) (C := B * (6 * B) ^ rs.length) fun i hi =>
   mul_bd (hM _ _) (detL_bd hB hM rs (cs.eraseIdx i) (by have := List.length_eraseIdx_le cs i; omega))
  have hp : 0 ≤ B * (6 * B) ^ rs.length := Int.mul_nonneg hB (Int.pow_nonneg (by omega))
  have e : (6 * B) ^ (r :: rs).length = 6 * (B * (6 * B) ^ rs.length) := by
   rw [List.length_cons, Int.pow_succ, Int.mul_comm, Int.mul_assoc]
  have h6 : (cs.length : Int) * (B * (6 * B) ^ rs.length) ≤ 6 * (B * (6 * B) ^ rs.length) := Int.mul_le_mul_of_nonneg_right (by omega) hp
  rw [e]
  unfold detL
  omega
def Inc (m k : Nat) (l : List Int) : Prop := l.length = k ∧ l.Pairwise (· < ·) ∧ ∀ x ∈ l, 0 ≤ x ∧ x < m
theorem Inc.erase {m k : Nat} {l : List Int} (h : Inc m (k + 1) l) {i : Nat} (hi : i < k + 1) : Inc m k (l.eraseIdx i) :=
 ⟨by rw [List.length_eraseIdx, if_pos (by rw [h.1]; exact hi), h.1]; rfl, h.2.1.sublist (List.eraseIdx_sublist _ _), fun x hx => h.2.2 x (List.mem_of_mem_eraseIdx hx)⟩
theorem minors_zero {M : List (List Int)} {m k : Nat} (h : ∀ rs cs, Inc m k rs → Inc m k cs → detL M rs cs = 0) {rs cs : List Int} (hr : Inc m (k + 1) rs) (hc : Inc m (k + 1) cs) : detL M rs cs = 0 := by
 cases rs with
 | nil => have := hr.1; simp at this
 | cons r rs =>
  have hr' : Inc m k rs := ⟨by have := hr.1; simpa using this, (List.pairwise_cons.1 hr.2.1).2, fun x hx => hr.2.2 x (List.mem_cons_of_mem _ hx)⟩
  unfold detL
  refine alt_zero fun i hi => ?_
  rw [h rs _ hr' (hc.erase (by have := hc.1; omega)), Int.mul_zero]
def gcdF (l : List Int) (a : Nat) : Nat := l.foldl (fun g x => Nat.gcd g x.natAbs) a
theorem gcdF_dvd {d : Nat} : ∀ (l : List Int) (a : Nat), d ∣ gcdF l a ↔ d ∣ a ∧ ∀ x ∈ l, d ∣ x.natAbs
 | [], a => by simp [gcdF]
 | x :: l, a => by
  have ih := gcdF_dvd (d := d) l (Nat.gcd a x.natAbs)
  show d ∣ gcdF l (Nat.gcd a x.natAbs) ↔ _
  rw [ih, Nat.dvd_gcd_iff]
  constructor
  ·rintro ⟨⟨h1, h2⟩, h3⟩
   refine ⟨h1, fun y hy => ?_⟩
   rcases List.mem_cons.1 hy with rfl | hy
   ·exact h2
   ·exact h3 y hy
  ·rintro ⟨h1, h2⟩
   exact ⟨⟨h1, h2 x List.mem_cons_self⟩, fun y hy => h2 y (List.mem_cons_of_mem _ hy)⟩
theorem gcdF_zero {l : List Int} : gcdF l 0 = 0 ↔ ∀ x ∈ l, x = 0 := by
 rw [← Nat.zero_dvd, gcdF_dvd]
 simp only [Nat.zero_dvd, Int.natAbs_eq_zero, true_and]
theorem gcdF_app (l m : List Int) (a : Nat) : gcdF (l ++ m) a = gcdF m (gcdF l a) := by unfold gcdF; rw [List.foldl_append]
abbrev Col := Int → Int
def z0 : Col := fun _ => 0
def detC : List Int → List Col → Int
 | [], _ => 1
 | r :: rs, cs => alt cs.length fun i => (cs.getD i z0) r * detC rs (cs.eraseIdx i)
def sg : Nat → Int
 | 0 => 1
 | n + 1 => - sg n
theorem sg_two (n : Nat) : sg (n + 2) = sg n := by simp [sg]
theorem sg_even (n : Nat) : sg (n + n) = 1 := by
 induction n with
 | zero => rfl
 | succ n ih => rw [show n + 1 + (n + 1) = n + n + 2 by omega, sg_two, ih]
theorem alt_neg (n : Nat) (g : Nat → Int) : alt n (fun i => - g i) = - alt n g := by
 have h := alt_mul n (-1) g
 simpa using h
theorem alt_split : ∀ (j n : Nat) (g : Nat → Int), j ≤ n → alt (n + 1) g = sg j * g j + alt n (fun k => if k < j then g k else - g (k + 1))
 | 0, n, g, _ => by
  have h := alt_neg n fun k => g (k + 1)
  show g 0 - alt n (fun i => g (i + 1)) = 1 * g 0 + alt n (fun k => if k < 0 then g k else - g (k + 1))
  rw [alt_congr (f := fun k => if k < 0 then g k else - g (k + 1)) (g := fun k => - g (k + 1)) fun i _ => if_neg (by omega), h]
  omega
 | j + 1, 0, g, h => by omega
 | j + 1, n + 1, g, h => by
  have ih := alt_split j n (fun i => g (i + 1)) (by omega)
  show g 0 - alt (n + 1) (fun i => g (i + 1)) = _
  rw [ih]
  have e : alt (n + 1) (fun k => if k < j + 1 then g k else - g (k + 1)) = g 0 - alt n (fun k => if k < j then g (k + 1) else - g (k + 1 + 1)) := by
   show (if 0 < j + 1 then g 0 else _) - alt n (fun k => if k + 1 < j + 1 then g (k + 1) else - g (k + 1 + 1)) = _
   rw [if_pos (by omega)]
   congr 1
   refine alt_congr fun i _ => ?_
   by_cases c : i < j
   ·rw [if_pos c, if_pos (by omega)]
   ·rw [if_neg c, if_neg (by omega)]
  rw [e]
  show _ = - sg j * g (j + 1) + _
  rw [Int.neg_mul]
  omega
theorem alt_two {n p : Nat} (hp : p + 1 < n) {g : Nat → Int} (h : ∀ i, i < n → i ≠ p → i ≠ p + 1 → g i = 0) (he : g p = g (p + 1)) : alt n g = 0 := by
 obtain ⟨m, rfl⟩ : ∃ m, n = m + 2 := ⟨n - 2, by omega⟩
 rw [alt_split p (m + 1) g (by omega), alt_split p m _ (by omega), if_neg (by omega), ← he, alt_zero fun i hi => ?_]
 ·rw [Int.mul_neg]; omega
 ·by_cases c : i < p
  ·rw [if_pos c, if_pos c, h i (by omega) (by omega) (by omega)]
  ·rw [if_neg c, if_neg (by omega), h (i + 1 + 1) (by omega) (by omega) (by omega)]
   simp
theorem getD_erase {α : Type} (l : List α) (i j : Nat) (d : α) : (l.eraseIdx i).getD j d = l.getD (if j < i then j else j + 1) d := by
 rw [List.getD_eq_getElem?_getD, List.getElem?_eraseIdx, List.getD_eq_getElem?_getD]
 split <;> rfl
theorem erase_erase {α : Type} (l : List α) {j k : Nat} (h : k < j) : (l.eraseIdx k).eraseIdx (j - 1) = (l.eraseIdx j).eraseIdx k := by
 apply List.ext_getElem?
 intro i
 simp only [List.getElem?_eraseIdx]
 by_cases a : i < k
 ·rw [if_pos (show i < j - 1 by omega), if_pos a, if_pos a, if_pos (show i < j by omega)]
 ·by_cases b : i < j - 1
  ·rw [if_pos b, if_neg a, if_neg a, if_pos (by omega)]
  ·rw [if_neg b, if_neg a, if_neg (show ¬ i + 1 < k by omega), if_neg (show ¬ i + 1 < j by omega)]
theorem erase_set_self {α : Type} (l : List α) (p : Nat) (x : α) : (l.set p x).eraseIdx p = l.eraseIdx p := by
 apply List.ext_getElem?
 intro i
 simp only [List.getElem?_eraseIdx, List.getElem?_set]
 split
 ·rw [if_neg (by omega)]
 ·rw [if_neg (by omega)]
theorem erase_set_lt {α : Type} (l : List α) {p i : Nat} (h : i < p) (x : α) : (l.set p x).eraseIdx i = (l.eraseIdx i).set (p - 1) x := by
 apply List.ext_getElem?
 intro k
 simp only [List.getElem?_eraseIdx, List.getElem?_set, List.length_eraseIdx]
 by_cases a : k < i
 ·rw [if_pos a, if_neg (by omega), if_neg (by omega), if_pos a]
 ·rw [if_neg a]
  by_cases b : p = k + 1
  ·rw [if_pos b, if_pos (show p - 1 = k by omega)]
   by_cases c : p < l.length
   ·rw [if_pos c, if_pos (by split <;> omega)]
   ·rw [if_neg c, if_neg (by split <;> omega)]
  ·rw [if_neg b, if_neg (show ¬ p - 1 = k by omega), if_neg a]
theorem erase_set_gt {α : Type} (l : List α) {p i : Nat} (h : p < i) (x : α) : (l.set p x).eraseIdx i = (l.eraseIdx i).set p x := by
 apply List.ext_getElem?
 intro k
 simp only [List.getElem?_eraseIdx, List.getElem?_set, List.length_eraseIdx]
 by_cases a : k < i
 ·rw [if_pos a, if_pos a]
  by_cases b : p = k
  ·rw [if_pos b, if_pos b]
   by_cases c : p < l.length
   ·rw [if_pos c, if_pos (by split <;> omega)]
   ·rw [if_neg c, if_neg (by split <;> omega)]
  ·rw [if_neg b, if_neg b]
 ·rw [if_neg a, if_neg a, if_neg (by omega), if_neg (by omega)]
theorem getD_set {α : Type} (l : List α) (p i : Nat) (x d : α) : (l.set p x).getD i d = if i = p ∧ p < l.length then x else l.getD i d := by
 rw [List.getD_eq_getElem?_getD, List.getElem?_set, List.getD_eq_getElem?_getD]
 by_cases c : p = i
 ·subst c
  by_cases b : p < l.length
  ·rw [if_pos rfl, if_pos b, if_pos ⟨rfl, b⟩]; rfl
  ·rw [if_pos rfl, if_neg b, if_neg (by omega), List.getElem?_eq_none (by omega)]
 ·rw [if_neg c, if_neg (by omega)]
theorem detC_congr {rs : List Int} : ∀ {cs ds : List Col}, cs.length = ds.length → (∀ i, i < cs.length → ∀ r ∈ rs, (cs.getD i z0) r = (ds.getD i z0) r) → detC rs cs = detC rs ds := by
 induction rs with
 | nil => intro cs ds _ _; rfl
 | cons r rs ih =>
  intro cs ds hl h
  unfold detC
  rw [← hl]
  refine alt_congr fun i hi => ?_
  rw [h i hi r List.mem_cons_self]
  congr 1
  refine ih (by rw [List.length_eraseIdx, List.length_eraseIdx, hl]) fun k hk r' hr' => ?_
  rw [getD_erase, getD_erase]
  have : (cs.eraseIdx i).length = cs.length - 1 := by rw [List.length_eraseIdx, if_pos hi]
  exact h _ (by split <;> omega) r' (List.mem_cons_of_mem _ hr')
theorem detC_lin (u w : Col) (t : Int) : ∀ {rs : List Int} {cs : List Col} {p : Nat}, rs.length = cs.length → p < cs.length → detC rs (cs.set p fun r => u r + t * w r) = detC rs (cs.set p u) + t * detC rs (cs.set p w)
 | [], cs, p, h, hp => by simp at h; omega
 | r :: rs, cs, p, h, hp => by
  unfold detC
  simp only [List.length_set]
  rw [← alt_mul, ← alt_add]
  refine alt_congr fun i hi => ?_
  by_cases c : i = p
  ·subst c
   rw [erase_set_self, erase_set_self, erase_set_self, getD_set, getD_set, getD_set, if_pos ⟨rfl, hp⟩, if_pos ⟨rfl, hp⟩, if_pos ⟨rfl, hp⟩, Int.add_mul, Int.mul_assoc]
  ·have hl : (cs.eraseIdx i).length = cs.length - 1 := by rw [List.length_eraseIdx, if_pos hi]
   have hr : rs.length = cs.length - 1 := by simp at h; omega
   rw [getD_set, getD_set, getD_set, if_neg (by omega), if_neg (by omega), if_neg (by omega)]
   by_cases d : i < p
   ·rw [erase_set_lt _ d, erase_set_lt _ d, erase_set_lt _ d, detC_lin u w t (by omega) (by omega), Int.mul_add, Int.mul_left_comm]
   ·rw [erase_set_gt _ (by omega), erase_set_gt _ (by omega), erase_set_gt _ (by omega), detC_lin u w t (by omega) (by omega), Int.mul_add, Int.mul_left_comm]
theorem detC_next : ∀ {rs : List Int} {cs : List Col} {p : Nat}, rs.length = cs.length → p + 1 < cs.length → cs.getD p z0 = cs.getD (p + 1) z0 → detC rs cs = 0
 | [], cs, p, h, hp, _ => by simp at h; omega
 | r :: rs, cs, p, h, hp, he => by
  unfold detC
  refine alt_two hp (fun i hi h1 h2 => ?_) ?_
  ·have hl : (cs.eraseIdx i).length = cs.length - 1 := by rw [List.length_eraseIdx, if_pos hi]
   have hr : rs.length = cs.length - 1 := by simp at h; omega
   by_cases d : i < p
   ·rw [detC_next (p := p - 1) (by omega) (by omega) (by rw [getD_erase, getD_erase, if_neg (by omega), if_neg (by omega), show p - 1 + 1 = p by omega]; exact he), Int.mul_zero]
   ·rw [detC_next (p := p) (by omega) (by omega) (by rw [getD_erase, getD_erase, if_pos (by omega), if_pos (by omega)]; exact he), Int.mul_zero]
  ·have e : cs.eraseIdx p = cs.eraseIdx (p + 1) := by
    apply List.ext_getElem?
    intro k
    simp only [List.getElem?_eraseIdx]
    by_cases a : k < p
    ·rw [if_pos a, if_pos (by omega)]
    ·by_cases b : k = p
     ·subst b
      rw [if_neg (by omega), if_pos (by omega)]
      rw [List.getD_eq_getElem?_getD, List.getD_eq_getElem?_getD, List.getElem?_eq_getElem (show k < cs.length by omega), List.getElem?_eq_getElem (show k + 1 < cs.length by omega)] at he
      rw [List.getElem?_eq_getElem (show k < cs.length by omega), List.getElem?_eq_getElem (show k + 1 < cs.length by omega)]
      simp only [Option.getD_some] at he
      rw [he]
     ·rw [if_neg (by omega), if_neg (by omega)]
   rw [he, e]
theorem set_self {α : Type} {l : List α} {p : Nat} (d : α) (hp : p < l.length) : l.set p (l.getD p d) = l := by
 apply List.ext_getElem?
 intro i
 rw [List.getElem?_set]
 by_cases c : p = i
 ·subst c
  rw [if_pos rfl, if_pos hp, List.getD_eq_getElem?_getD, List.getElem?_eq_getElem hp]; rfl
 ·rw [if_neg c]
theorem set_comm' {α : Type} (l : List α) {p q : Nat} (h : p ≠ q) (x y : α) : (l.set p x).set q y = (l.set q y).set p x := List.set_comm x y h
theorem detC_add {rs : List Int} {cs : List Col} {p : Nat} (u w : Col) (h : rs.length = cs.length) (hp : p < cs.length) : detC rs (cs.set p fun r => u r + w r) = detC rs (cs.set p u) + detC rs (cs.set p w) := by
 have := detC_lin u w 1 h hp
 simpa using this
theorem detC_swap {rs : List Int} {cs : List Col} {p : Nat} (h : rs.length = cs.length) (hp : p + 1 < cs.length) (x y : Col) : detC rs ((cs.set p x).set (p + 1) y) = - detC rs ((cs.set p y).set (p + 1) x) := by
 have hz : ∀ z : Col, detC rs ((cs.set p z).set (p + 1) z) = 0 := fun z => by
  refine detC_next (p := p) (by simpa using h) (by simpa using hp) ?_
  rw [getD_set, getD_set, if_neg (by omega), getD_set, if_pos ⟨rfl, by omega⟩, if_pos ⟨rfl, by simpa using hp⟩]
 have h1 := hz fun r => x r + y r
 have a1 : ∀ z : Col, detC rs ((cs.set p fun r => x r + y r).set (p + 1) z) = detC rs ((cs.set p x).set (p + 1) z) + detC rs ((cs.set p y).set (p + 1) z) := fun z => by
  rw [set_comm' cs (by omega) _ z, detC_add x y (by simpa using h) (by rw [List.length_set]; omega), set_comm' cs (by omega) z x, set_comm' cs (by omega) z y]
 rw [detC_add x y (by simpa using h) (by simpa using hp), a1 x, a1 y, hz x, hz y] at h1
 omega
theorem detC_same {rs : List Int} : ∀ (d : Nat) {cs : List Col} {p : Nat}, rs.length = cs.length → p + d + 1 < cs.length → cs.getD p z0 = cs.getD (p + d + 1) z0 → detC rs cs = 0
 | 0, cs, p, h, hp, he => detC_next h hp he
 | d + 1, cs, p, h, hp, he => by
  have e : cs = (cs.set (p + d + 1) (cs.getD (p + d + 1) z0)).set (p + d + 1 + 1) (cs.getD (p + d + 2) z0) := by
   rw [set_self z0 (by omega), set_self z0 (by omega)]
  rw [e, detC_swap h (by omega), detC_same d (p := p) (by simpa using h) (by rw [List.length_set, List.length_set]; omega), Int.neg_zero]
  rw [getD_set, if_neg (by omega), getD_set, if_neg (by omega), getD_set, if_neg (by omega), getD_set, if_pos ⟨rfl, by omega⟩]
  exact he
theorem detC_null {rs : List Int} {cs : List Col} {p : Nat} (h : rs.length = cs.length) (hp : p < cs.length) : detC rs (cs.set p z0) = 0 := by
 have h1 := detC_add (p := p) z0 z0 h hp
 have e : (fun r => z0 r + z0 r) = z0 := rfl
 rw [e] at h1
 omega
theorem detC_comb {rs : List Int} {cs : List Col} {p : Nat} (h : rs.length = cs.length) (hp : p < cs.length) : ∀ (L : List (Int × Nat)), (∀ x ∈ L, x.2 < cs.length ∧ x.2 ≠ p) → detC rs (cs.set p fun r => (L.map fun x => x.1 * (cs.getD x.2 z0) r).sum) = 0
 | [], _ => detC_null h hp
 | x :: L, hL => by
  have hx := hL x List.mem_cons_self
  have e : (fun r => ((x :: L).map fun y => y.1 * (cs.getD y.2 z0) r).sum) = fun r => (L.map fun y => y.1 * (cs.getD y.2 z0) r).sum + x.1 * (cs.getD x.2 z0) r := by
   funext r
   rw [List.map_cons, List.sum_cons, Int.add_comm]
  rw [e, detC_lin _ _ _ h hp, detC_comb h hp L fun y hy => hL y (List.mem_cons_of_mem _ hy)]
  have : detC rs (cs.set p (cs.getD x.2 z0)) = 0 := by
   by_cases c : x.2 < p
   ·refine detC_same (p - x.2 - 1) (p := x.2) (by simpa using h) (by rw [List.length_set]; omega) ?_
    rw [getD_set, if_neg (by omega), show x.2 + (p - x.2 - 1) + 1 = p by omega, getD_set, if_pos ⟨rfl, hp⟩]
   ·refine detC_same (x.2 - p - 1) (p := p) (by simpa using h) (by rw [List.length_set]; omega) ?_
    rw [show p + (x.2 - p - 1) + 1 = x.2 by omega, getD_set, if_pos ⟨rfl, hp⟩, getD_set, if_neg (by omega)]
  rw [this]
  simp
end Go.Proofs.Ytkcbinohpdhbgaa.Cf
end

section
namespace Go.Proofs.Ytkcbinohpdhbgaa.Cf
set_option linter.unusedVariables false
set_option linter.unusedSimpArgs false
open Go.RowKit Go.Proofs.YtkcbinohpdhbgaaW.PrintWords Go.Proofs.Ytkcbinohpdhbgaa.P
def bitsB (m i : Nat) : List Int := ((List.range i).filter fun j => m.testBit j).map fun j : Nat => (j : Int)
def bitsL (m : Nat) : List Int := bitsB m 6
theorem bm_on : ∀ (m : Fin 64) (i : Fin 7), (shr .i64 (m.val : Int) (i.val : Int) > 0 ∧ i.val < 6) ∨ (¬ shr .i64 (m.val : Int) (i.val : Int) > 0 ∧ bitsB m.val i.val = bitsL m.val) := by decide
theorem bm_val : ∀ (m : Fin 64) (i : Fin 6), (Go.bits .and .i64 (shr .i64 (m.val : Int) (i.val : Int)) 1 = 1 ∧ m.val.testBit i.val = true) ∨ (Go.bits .and .i64 (shr .i64 (m.val : Int) (i.val : Int)) 1 = 0 ∧ m.val.testBit i.val = false) := by decide
theorem bitsB_succ (m i : Nat) : bitsB m (i + 1) = bitsB m i ++ (if m.testBit i then [(i : Int)] else []) := by
 unfold bitsB
 rw [List.range_succ, List.filter_append, List.map_append]
 congr 1
 by_cases c : m.testBit i = true
 ·rw [if_pos c, List.filter_cons_of_pos (by simpa using c)]; rfl
 ·rw [if_neg c, List.filter_cons_of_neg (by simpa using c)]; rfl
theorem bitsB_len (m i : Nat) : (bitsB m i).length ≤ i := by
 unfold bitsB
 rw [List.length_map]
 exact Nat.le_trans (List.length_filter_le _ _) (by simp)
theorem bm_drop : ∀ (m : Fin 64) (i : Fin 6), m.val.testBit i.val = true → ∃ m' : Fin 64, Go.bits .andNot .i64 (m.val : Int) (shl .i64 1 (i.val : Int)) = (m'.val : Int) ∧ bitsL m'.val = (bitsL m.val).eraseIdx (bitsB m.val i.val).length ∧ (bitsL m.val)[(bitsB m.val i.val).length]? = some (i.val : Int) ∧ m'.val ≤ m.val := by decide
theorem bm_all : ∀ (m : Fin 64) (i : Fin 7), m.val < 2 ^ i.val → bitsB m.val i.val = bitsL m.val := by decide
theorem bm_full0 : ∀ i : Fin 7, bitsL (2 ^ i.val - 1) = (List.range i.val).map (fun j : Nat => (j : Int)) ∧ shl .i64 1 (i.val : Int) = ((2 ^ i.val : Nat) : Int) ∧ (2 ^ i.val - 1 : Nat) < 64 ∧ 0 < 2 ^ i.val := by decide
theorem bm_full {i : Nat} (hi : i < 7) : bitsL (2 ^ i - 1) = (List.range i).map (fun j : Nat => (j : Int)) ∧ wrap64 (shl .i64 1 (i : Int) - 1) = ((2 ^ i - 1 : Nat) : Int) ∧ shl .i64 1 (i : Int) = ((2 ^ i : Nat) : Int) ∧ (2 ^ i - 1 : Nat) < 64 := by
 obtain ⟨h1, h2, h3, h4⟩ := bm_full0 ⟨i, hi⟩
 simp only at h1 h2 h3 h4
 refine ⟨h1, ?_, h2, h3⟩
 rw [h2, wrap_id (by omega) (by omega)]
 omega
theorem implBits_l0 {m : Nat} (hm : m < 64) : ∀ (d i : Nat), i + d = 6 → Ep (fun k => impl_bitsOf.l0 k (m : Int) (bitsB m i) (i : Int)) (· = bitsL m) := by
 intro d
 induction d with
 | zero =>
  intro i hi
  refine Ep.up ?_
  simp only [impl_bitsOf.l0]
  rcases bm_on ⟨m, hm⟩ ⟨i, by omega⟩ with ⟨_, h⟩ | ⟨h1, h2⟩
  ·exact absurd h (by simp; omega)
  ·exact Ep.pos (by omega) (Ep.neg h1 (Ep.now h2))
 | succ d ih =>
  intro i hi
  have h := ih (i + 1) (by omega)
  rw [bitsB_succ] at h
  refine Ep.up ?_
  simp only [impl_bitsOf.l0]
  rcases bm_on ⟨m, hm⟩ ⟨i, by omega⟩ with ⟨h1, _⟩ | ⟨h1, h2⟩
  ·refine Ep.pos (by omega) (Ep.pos h1 ?_)
   rw [wrap_succ (by omega)]
   rcases bm_val ⟨m, hm⟩ ⟨i, by omega⟩ with ⟨b1, b2⟩ | ⟨b1, b2⟩
   ·rw [if_pos b2] at h
    exact Ep.pos b1 (Ep.pos (by have := bitsB_len m i; omega) h)
   ·have b1' : Go.bits .and .i64 (shr .i64 (m : Int) (i : Int)) 1 = 0 := b1
    rw [if_neg (by simpa using b2), List.append_nil] at h
    exact Ep.neg (by rw [b1']; omega) h
  ·exact Ep.pos (by omega) (Ep.neg h1 (Ep.now h2))
theorem implBits {m : Nat} (hm : m < 64) : Ep (fun k => impl_bitsOf.f k (m : Int)) (· = bitsL m) := implBits_l0 hm 6 0 rfl
end Go.Proofs.Ytkcbinohpdhbgaa.Cf
end

section
namespace Go.Proofs.Ytkcbinohpdhbgaa.Cf
set_option linter.unusedVariables false
set_option linter.unusedSimpArgs false
open Go.RowKit Go.Proofs.YtkcbinohpdhbgaaW.PrintWords
structure Rec (c : Int) (F : List E → List Int → Int) : Prop where
 perm : ∀ {es es' : List E} {vs : List Int}, es.Perm es' → F es vs = F es' vs
 nil : F [] [] = 1
 loop : ∀ (e : E) (es : List E) (vs : List Int), vs.Nodup → e.f0 ∉ vs → e.f1 ∉ vs → F (e :: es) vs = c * F es vs
 cut : ∀ (e : E) (es : List E) (vs : List Int) (u v : Int), (e.f0 = u ∧ e.f1 = v) ∨ (e.f0 = v ∧ e.f1 = u) → (∀ x ∈ es, x.f0 ≠ x.f1) → vs.Nodup → v ∈ vs → u ∉ vs → F (e :: es) vs = F es vs + F es (vs.erase v)
 far : ∀ (es : List E) (vs : List Int), (∀ x ∈ es, x.f0 ≠ x.f1) → vs.Nodup → vs ≠ [] → (∀ e ∈ es, e.f0 ∈ vs ↔ e.f1 ∈ vs) → F es vs = 0
structure RecR (c : Int) (R : List E → List Int → Int → Prop) : Prop where
 perm : ∀ {es es' : List E} {vs : List Int} {k : Int}, es.Perm es' → R es vs k → R es' vs k
 nil : R [] [] 1
 loop : ∀ (e : E) (es : List E) (vs : List Int) (k : Int), vs.Nodup → e.f0 ∉ vs → e.f1 ∉ vs → R es vs k → R (e :: es) vs (c * k)
 cut : ∀ (e : E) (es : List E) (vs : List Int) (u v k k' : Int), (e.f0 = u ∧ e.f1 = v) ∨ (e.f0 = v ∧ e.f1 = u) → (∀ x ∈ es, x.f0 ≠ x.f1) → vs.Nodup → v ∈ vs → u ∉ vs → R es vs k → R es (vs.erase v) k' → R (e :: es) vs (k + k')
 far : ∀ (es : List E) (vs : List Int), (∀ x ∈ es, x.f0 ≠ x.f1) → vs.Nodup → vs ≠ [] → (∀ e ∈ es, e.f0 ∈ vs ↔ e.f1 ∈ vs) → R es vs 0
theorem RecR.of {c : Int} {F : List E → List Int → Int} {R : List E → List Int → Int → Prop} (hF : Rec c F) (hR : RecR c R) : ∀ (m : Nat) (es : List E) (vs : List Int), es.length = m → (∀ x ∈ es, x.f0 ≠ x.f1) → vs.Nodup → R es vs (F es vs) := by
 intro m
 induction m with
 | zero =>
  intro es vs hm hl hn
  obtain rfl := List.length_eq_zero_iff.1 hm
  by_cases h : vs = []
  ·rw [h, hF.nil]; exact hR.nil
  ·rw [hF.far [] vs hl hn h (fun e he => by cases he)]; exact hR.far [] vs hl hn h (fun e he => by cases he)
 | succ m ih =>
  intro es vs hm hl hn
  by_cases h : ∃ e ∈ es, ∃ u v : Int, ((e.f0 = u ∧ e.f1 = v) ∨ (e.f0 = v ∧ e.f1 = u)) ∧ v ∈ vs ∧ u ∉ vs
  ·obtain ⟨e, he, u, v, huv, hv, hu⟩ := h
   obtain ⟨l1, l2, rfl⟩ := List.append_of_mem he
   have hp : (l1 ++ e :: l2).Perm (e :: (l1 ++ l2)) := List.perm_middle
   have hl' : ∀ x ∈ l1 ++ l2, x.f0 ≠ x.f1 := fun x hx => hl x (by simp at hx ⊢; rcases hx with h | h <;> simp [h])
   have hm' : (l1 ++ l2).length = m := by simp at hm ⊢; omega
   rw [hF.perm hp, hF.cut e _ vs u v huv hl' hn hv hu]
   exact hR.perm hp.symm (hR.cut e _ vs u v _ _ huv hl' hn hv hu (ih _ vs hm' hl' hn) (ih _ (vs.erase v) hm' hl' (hn.erase v)))
  ·have hfar : ∀ e ∈ es, e.f0 ∈ vs ↔ e.f1 ∈ vs := fun e he => ⟨fun h0 => Classical.byContradiction fun h1 => h ⟨e, he, e.f1, e.f0, .inr ⟨rfl, rfl⟩, h0, h1⟩, fun h1 => Classical.byContradiction fun h0 => h ⟨e, he, e.f0, e.f1, .inl ⟨rfl, rfl⟩, h1, h0⟩⟩
   by_cases hv : vs = []
   ·subst hv
    cases es with
    | nil => simp at hm
    | cons e es =>
     rw [hF.loop e es [] (by simp) (by simp) (by simp)]
     exact hR.loop e es [] _ (by simp) (by simp) (by simp) (ih es [] (by simpa using hm) (fun x hx => hl x (List.mem_cons_of_mem _ hx)) hn)
   ·rw [hF.far es vs hl hn hv hfar]
    exact hR.far es vs hl hn hv hfar
theorem Rec.unique {c : Int} {F G : List E → List Int → Int} (hF : Rec c F) (hG : Rec c G) {es : List E} {vs : List Int} (hl : ∀ x ∈ es, x.f0 ≠ x.f1) (hn : vs.Nodup) : G es vs = F es vs :=
 RecR.of hF (R := fun es vs k => G es vs = k) ⟨fun h k => (hG.perm h).symm.trans k, hG.nil, fun e es vs k hn h0 h1 h => by rw [hG.loop e es vs hn h0 h1, h], fun e es vs u v k k' huv hl hn hv hu h h' => by rw [hG.cut e es vs u v huv hl hn hv hu, h, h'], hG.far⟩ es.length es vs rfl hl hn
def unitC (v : Int) : Col := fun r => if r = v then 1 else 0
theorem detC_unit {v : Int} : ∀ {rs : List Int} {cs : List Col} {i p : Nat}, rs.length = cs.length → p < cs.length → rs.Nodup → rs[i]? = some v → detC rs (cs.set p (unitC v)) = sg (i + p) * detC (rs.eraseIdx i) (cs.eraseIdx p)
 | [], _, i, p, h, hp, _, hi => by simp at hi
 | r :: rs, cs, 0, p, h, hp, hn, hi => by
  obtain rfl : r = v := by simpa using hi
  have hv : r ∉ rs := (List.nodup_cons.1 hn).1
  obtain ⟨n, hcn⟩ : ∃ n, cs.length = n + 1 := ⟨cs.length - 1, by omega⟩
  have hrl : rs.length = n := by simp at h; omega
  have hz : ∀ k, k < cs.length → k ≠ p → detC rs ((cs.set p (unitC r)).eraseIdx k) = 0 := fun k hk hkp => by
   have hl : (cs.eraseIdx k).length = cs.length - 1 := by rw [List.length_eraseIdx, if_pos hk]
   have key : ∀ q : Nat, q < (cs.eraseIdx k).length → detC rs ((cs.eraseIdx k).set q (unitC r)) = 0 := fun q hq => by
    rw [← detC_null (rs := rs) (cs := cs.eraseIdx k) (p := q) (by omega) hq]
    refine detC_congr (by simp) fun j hj s hs => ?_
    rw [getD_set, getD_set]
    split
    ·show (if s = r then (1 : Int) else 0) = 0
     rw [if_neg (fun e : s = r => hv (e ▸ hs))]
    ·rfl
   by_cases d : k < p
   ·rw [erase_set_lt _ d]; exact key _ (by omega)
   ·rw [erase_set_gt _ (by omega)]; exact key _ (by omega)
  show alt (cs.set p (unitC r)).length (fun i => ((cs.set p (unitC r)).getD i z0) r * detC rs ((cs.set p (unitC r)).eraseIdx i)) = sg (0 + p) * detC rs (cs.eraseIdx p)
  rw [List.length_set, hcn, alt_split p n _ (by omega), alt_zero fun k hk => ?_]
  ·rw [getD_set, if_pos ⟨rfl, hp⟩, erase_set_self]
   show sg p * ((if r = r then (1 : Int) else 0) * detC rs (cs.eraseIdx p)) + 0 = sg (0 + p) * detC rs (cs.eraseIdx p)
   rw [if_pos rfl, Int.one_mul, Int.add_zero, Nat.zero_add]
  ·split
   ·rw [hz k (by omega) (by omega), Int.mul_zero]
   ·rw [hz (k + 1) (by omega) (by omega), Int.mul_zero]; rfl
 | r :: rs, cs, i + 1, p, h, hp, hn, hi => by
  have hi' : rs[i]? = some v := by simpa using hi
  have hrv : r ≠ v := fun e => (List.nodup_cons.1 hn).1 (e ▸ List.mem_of_getElem? hi')
  obtain ⟨n, hcn⟩ : ∃ n, cs.length = n + 1 := ⟨cs.length - 1, by omega⟩
  have hrl : rs.length = n := by simp at h; omega
  have hcp : (cs.eraseIdx p).length = n := by rw [List.length_eraseIdx, if_pos hp]; omega
  rw [List.eraseIdx_cons_succ]
  show alt (cs.set p (unitC v)).length (fun k => ((cs.set p (unitC v)).getD k z0) r * detC rs ((cs.set p (unitC v)).eraseIdx k)) = sg (i + 1 + p) * alt (cs.eraseIdx p).length (fun k => ((cs.eraseIdx p).getD k z0) r * detC (rs.eraseIdx i) ((cs.eraseIdx p).eraseIdx k))
  rw [List.length_set, hcn, hcp, alt_split p n _ (by omega), getD_set, if_pos ⟨rfl, hp⟩, ← alt_mul]
  have e0 : unitC v r = 0 := if_neg hrv
  rw [e0, Int.zero_mul, Int.mul_zero, Int.zero_add]
  refine alt_congr fun k hk => ?_
  by_cases d : k < p
  ·have hl : (cs.eraseIdx k).length = n := by rw [List.length_eraseIdx, if_pos (by omega)]; omega
   rw [if_pos d, getD_set, if_neg (by omega), erase_set_lt _ d, detC_unit (by omega) (by omega) (List.nodup_cons.1 hn).2 hi', erase_erase _ d, getD_erase, if_pos d]
   have hs : sg (i + (p - 1)) = sg (i + 1 + p) := by rw [show i + 1 + p = i + (p - 1) + 2 by omega, sg_two]
   rw [hs, Int.mul_left_comm]
  ·have hl : (cs.eraseIdx (k + 1)).length = n := by rw [List.length_eraseIdx, if_pos (by omega)]; omega
   have he := erase_erase cs (j := k + 1) (k := p) (by omega)
   rw [if_neg d, getD_set, if_neg (by omega), erase_set_gt _ (by omega), detC_unit (by omega) (by omega) (List.nodup_cons.1 hn).2 hi', ← he, getD_erase, if_neg d, show k + 1 - 1 = k by omega]
   have hs : sg (i + 1 + p) = - sg (i + p) := by rw [show i + 1 + p = (i + p) + 1 by omega]; rfl
   rw [hs, Int.mul_left_comm, Int.neg_mul]
def lapM (es : List E) (r c : Int) : Int := if r = c then val es r else - mult es r c
def dlap (es : List E) (vs : List Int) : Int := detC vs (vs.map fun c r => lapM es r c)
theorem sumE_perm {es es' : List E} (h : es.Perm es') (f : E → Int) : sumE es f = sumE es' f := by
 induction h with
 | nil => rfl
 | cons x _ ih => rw [sumE_cons, sumE_cons, ih]
 | swap x y l => rw [sumE_cons, sumE_cons, sumE_cons, sumE_cons]; omega
 | trans _ _ h1 h2 => exact h1.trans h2
theorem lapM_perm {es es' : List E} (h : es.Perm es') : lapM es = lapM es' := by
 funext r c
 unfold lapM val mult
 rw [sumE_perm h, sumE_perm h]
theorem lapM_cons (e : E) (es : List E) (r c : Int) : lapM (e :: es) r c = (if r = c then valE r e else - multE r c e) + lapM es r c := by
 unfold lapM val mult
 rw [sumE_cons, sumE_cons]
 split <;> omega
theorem getD_map {α β : Type} (f : α → β) (l : List α) (i : Nat) (d : α) (d' : β) (h : i < l.length) : (l.map f).getD i d' = f (l.getD i d) := by
 rw [List.getD_eq_getElem?_getD, List.getElem?_map, List.getD_eq_getElem?_getD, List.getElem?_eq_getElem h]
 rfl
theorem getD_mem {α : Type} {l : List α} {i : Nat} (d : α) (h : i < l.length) : l.getD i d ∈ l := by
 rw [List.getD_eq_getElem?_getD, List.getElem?_eq_getElem h]
 exact List.getElem_mem h
theorem map_eraseIdx {α β : Type} (f : α → β) (l : List α) (i : Nat) : (l.map f).eraseIdx i = (l.eraseIdx i).map f := by
 apply List.ext_getElem?
 intro k
 simp only [List.getElem?_eraseIdx, List.getElem?_map]
 split <;> rfl
theorem dlap_congr {es es' : List E} {vs : List Int} (h : ∀ r ∈ vs, ∀ c ∈ vs, lapM es r c = lapM es' r c) : dlap es vs = dlap es' vs := by
 unfold dlap
 refine detC_congr (by simp) fun i hi r hr => ?_
 rw [List.length_map] at hi
 rw [getD_map _ _ _ (0 : Int) _ hi, getD_map _ _ _ (0 : Int) _ hi]
 exact h r hr _ (getD_mem _ hi)
theorem nodup_idx {l : List Int} (hn : l.Nodup) {i j : Nat} (hi : i < l.length) (hj : j < l.length) (h : l.getD i 0 = l.getD j 0) : i = j := by
 rw [List.getD_eq_getElem?_getD, List.getD_eq_getElem?_getD, List.getElem?_eq_getElem hi, List.getElem?_eq_getElem hj] at h
 simp only [Option.getD_some] at h
 apply Classical.byContradiction
 intro hne
 rcases Nat.lt_or_gt_of_ne hne with hlt | hlt
 ·exact List.pairwise_iff_getElem.1 hn i j hi hj hlt h
 ·exact List.pairwise_iff_getElem.1 hn j i hj hi hlt h.symm
theorem dlap_cut (e : E) (es : List E) {vs : List Int} {u v : Int} (huv : (e.f0 = u ∧ e.f1 = v) ∨ (e.f0 = v ∧ e.f1 = u)) (hn : vs.Nodup) (hv : v ∈ vs) (hu : u ∉ vs) : dlap (e :: es) vs = dlap es vs + dlap es (vs.erase v) := by
 obtain ⟨p, hp, hpv⟩ := List.getElem_of_mem hv
 have hpd : vs.getD p 0 = v := by rw [List.getD_eq_getElem?_getD, List.getElem?_eq_getElem hp]; exact hpv
 have hml : (vs.map fun c r => lapM es r c).length = vs.length := by simp
 have e1 : dlap (e :: es) vs = detC vs ((vs.map fun c r => lapM es r c).set p fun r => (fun r => lapM es r v) r + unitC v r) := by
  unfold dlap
  refine detC_congr (by simp) fun i hi r hr => ?_
  rw [List.length_map] at hi
  rw [getD_map _ _ _ (0 : Int) _ hi, getD_set, hml]
  have hru : r ≠ u := fun x => hu (x ▸ hr)
  have hcu : vs.getD i 0 ≠ u := fun x => hu (x ▸ getD_mem 0 hi)
  by_cases c : i = p
  ·rw [if_pos ⟨c, hp⟩, c, hpd, lapM_cons]
   show _ = lapM es r v + (if r = v then 1 else 0)
   by_cases d : r = v
   ·rw [if_pos d, if_pos d, d]
    have : valE v e = 1 := by unfold valE; rw [if_pos]; rcases huv with h | h <;> omega
    omega
   ·rw [if_neg d, if_neg d]
    have : multE r v e = 0 := by unfold multE; rw [if_neg]; rcases huv with h | h <;> omega
    omega
  ·rw [if_neg (fun x => c x.1), getD_map _ _ _ (0 : Int) _ hi, lapM_cons]
   have hcv : vs.getD i 0 ≠ v := fun x => c (nodup_idx hn hi hp (x.trans hpd.symm))
   generalize vs.getD i 0 = w at hcu hcv
   by_cases d : r = w
   ·rw [if_pos d]
    have : valE r e = 0 := by unfold valE; rw [if_neg]; rcases huv with h | h <;> omega
    omega
   ·rw [if_neg d]
    have : multE r w e = 0 := by unfold multE; rw [if_neg]; rcases huv with h | h <;> omega
    omega
 have e2 : (vs.map fun c r => lapM es r c).set p (fun r => lapM es r v) = vs.map fun c r => lapM es r c := by
  have := set_self (l := vs.map fun c r => lapM es r c) z0 (by rw [hml]; exact hp)
  rw [getD_map _ _ _ (0 : Int) _ hp, hpd] at this
  exact this
 have e3 : vs.eraseIdx p = vs.erase v := by
  rw [List.erase_eq_eraseIdx_of_idxOf]
  rw [← hpv]
  exact List.Nodup.idxOf_getElem hn p hp
 rw [e1, detC_add _ _ (by simp) (by rw [hml]; exact hp), e2, detC_unit (by simp) (by rw [hml]; exact hp) hn (i := p) (by rw [List.getElem?_eq_getElem hp, hpv]), sg_even, Int.one_mul, map_eraseIdx, e3]
 rfl
theorem sum_neg' (l : List Int) (f : Int → Int) : (l.map fun x => - f x).sum = - (l.map f).sum := by
 induction l with
 | nil => rfl
 | cons x l ih => rw [List.map_cons, List.sum_cons, List.map_cons, List.sum_cons, ih]; omega
theorem sum_zero' (l : List Int) {f : Int → Int} (h : ∀ x ∈ l, f x = 0) : (l.map f).sum = 0 := by
 induction l with
 | nil => rfl
 | cons x l ih => rw [List.map_cons, List.sum_cons, h x List.mem_cons_self, ih fun y hy => h y (List.mem_cons_of_mem _ hy)]; rfl
theorem lapM_sum {vs : List Int} (hn : vs.Nodup) {r : Int} (hr : r ∈ vs) : ∀ {es : List E}, (∀ x ∈ es, x.f0 ≠ x.f1) → (∀ e ∈ es, e.f0 ∈ vs ↔ e.f1 ∈ vs) → (vs.map fun c => lapM es r c).sum = 0
 | [], _, _ => sum_zero' _ fun x _ => by
  unfold lapM val mult
  rw [sumE_nil, sumE_nil]
  split <;> rfl
 | e :: es, hl, hf => by
  have ih := lapM_sum hn hr (es := es) (fun x hx => hl x (List.mem_cons_of_mem _ hx)) fun x hx => hf x (List.mem_cons_of_mem _ hx)
  have h0 := hl e List.mem_cons_self
  have h1 := hf e List.mem_cons_self
  have ha := sum_add vs (fun c => if r = c then valE r e else - multE r c e) (fun c => lapM es r c)
  simp only [← lapM_cons] at ha
  rw [ha, ih, Int.add_zero]
  have two : ∀ x, x ≠ r → x ∈ vs → (∀ c, multE r c e = if c = x then 1 else 0) → valE r e = 1 → (vs.map fun c => if r = c then valE r e else - multE r c e).sum = 0 := by
   intro x hx hxv hm hv
   have e1 : (vs.map fun c => if r = c then valE r e else - multE r c e) = vs.map fun c => (if r = c then (1 : Int) else 0) + - (if x = c then 1 else 0) := by
    refine List.map_congr_left fun c _ => ?_
    by_cases d : r = c
    ·rw [if_pos d, if_pos d, if_neg (show ¬ x = c by omega), hv]; rfl
    ·rw [if_neg d, if_neg d, hm c]
     by_cases d2 : c = x
     ·rw [if_pos d2, if_pos d2.symm]; rfl
     ·rw [if_neg d2, if_neg (fun q => d2 q.symm)]; rfl
   rw [e1, sum_add vs (fun c => if r = c then (1 : Int) else 0) (fun c => - (if x = c then 1 else 0)), sum_neg' vs (fun c => if x = c then 1 else 0), sum_ind r vs hn, sum_ind x vs hn, if_pos hr, if_pos hxv]
   rfl
  by_cases a : e.f0 = r
  ·refine two e.f1 (by omega) (h1.1 (a ▸ hr)) (fun c => ?_) (by unfold valE; rw [if_pos (.inl a)])
   unfold multE
   by_cases d : c = e.f1
   ·rw [if_pos d, if_pos (.inl ⟨a, d.symm⟩)]
   ·rw [if_neg d, if_neg (by omega)]
  ·by_cases b : e.f1 = r
   ·refine two e.f0 a (h1.2 (b ▸ hr)) (fun c => ?_) (by unfold valE; rw [if_pos (.inr b)])
    unfold multE
    by_cases d : c = e.f0
    ·rw [if_pos d, if_pos (.inr ⟨d.symm, b⟩)]
    ·rw [if_neg d, if_neg (by omega)]
   ·refine sum_zero' _ fun c _ => ?_
    have e1 : valE r e = 0 := by unfold valE; rw [if_neg (by omega)]
    have e2 : multE r c e = 0 := by unfold multE; rw [if_neg (by omega)]
    rw [e1, e2]
    split <;> rfl
theorem dlap_far {es : List E} {vs : List Int} (hl : ∀ x ∈ es, x.f0 ≠ x.f1) (hn : vs.Nodup) (hv : vs ≠ []) (hf : ∀ e ∈ es, e.f0 ∈ vs ↔ e.f1 ∈ vs) : dlap es vs = 0 := by
 cases vs with
 | nil => exact absurd rfl hv
 | cons v vs =>
  have hc := detC_comb (rs := v :: vs) (cs := (v :: vs).map fun c r => lapM es r c) (p := 0) (by simp) (by simp) ((List.range vs.length).map fun j => (-1, j + 1)) (fun x hx => by
   obtain ⟨j, hj, rfl⟩ := List.mem_map.1 hx
   have := List.mem_range.1 hj
   simp
   omega)
  rw [← hc]
  unfold dlap
  refine detC_congr (by simp) fun i hi r hr => ?_
  rw [List.length_map] at hi
  rw [getD_set]
  by_cases c : i = 0
  ·rw [if_pos ⟨c, by simp⟩, c, getD_map _ _ _ (0 : Int) _ (by simp)]
   have hs := lapM_sum hn hr hl hf
   rw [List.map_cons, List.sum_cons] at hs
   show lapM es r v = _
   have e1 : (((List.range vs.length).map fun j => ((-1 : Int), j + 1)).map fun x => x.1 * (((v :: vs).map fun c r => lapM es r c).getD x.2 z0) r) = vs.map fun c => - lapM es r c := by
    rw [List.map_map]
    apply List.ext_getElem (by simp)
    intro j h1 h2
    have hj : j < vs.length := by simpa using h2
    simp [List.getD, hj]
   rw [e1, sum_neg' vs (fun c => lapM es r c)]
   omega
  ·rw [if_neg (fun x => c x.1)]
theorem dlap_rec : Rec 1 dlap where
 perm := fun h => by unfold dlap; rw [lapM_perm h]
 nil := rfl
 loop := fun e es vs _ h0 h1 => by
  rw [Int.one_mul]
  refine dlap_congr fun r hr c hc => ?_
  rw [lapM_cons]
  have a : e.f0 ≠ r := fun x => h0 (x ▸ hr)
  have b : e.f1 ≠ r := fun x => h1 (x ▸ hr)
  have e1 : valE r e = 0 := by unfold valE; rw [if_neg (by omega)]
  have e2 : multE r c e = 0 := by unfold multE; rw [if_neg (by omega)]
  rw [e1, e2]
  split <;> omega
 cut := fun e es vs u v huv _ hn hv hu => dlap_cut e es huv hn hv hu
 far := fun es vs hl hn hv hf => dlap_far hl hn hv hf
end Go.Proofs.Ytkcbinohpdhbgaa.Cf
end

section
namespace Go.Proofs.Ytkcbinohpdhbgaa.Cf
set_option linter.unusedVariables false
set_option linter.unusedSimpArgs false
open Go.RowKit Go.Proofs.YtkcbinohpdhbgaaW.PrintWords Go.Proofs.Ytkcbinohpdhbgaa.P
def lapRow (n : Nat) (es : List E) (r : Int) : List Int := repL n fun c => lapM es r c
def lapL (n : Nat) (es : List E) : List (List Int) := (List.range n).map fun r : Nat => lapRow n es (r : Int)
theorem lapL_len (n : Nat) (es : List E) : (lapL n es).length = n := by simp [lapL]
theorem lapM_bd {es : List E} (hel : es.length ≤ 12) (r c : Int) : -12 ≤ lapM es r c ∧ lapM es r c ≤ 12 := by
 have h1 := val_nonneg es r
 have h2 := val_le es r
 have h3 := mult_nonneg es r c
 have h4 := mult_le es r c
 unfold lapM
 split <;> omega
theorem implLap_l1 {n : Nat} {es : List E} (hes : ∀ e ∈ es, EOk n e) (hel : es.length ≤ 12) (hn : n ≤ 6) {M : List (List Int)} (hM : M.length ≤ 6) {v : Nat} (hv : v < n) {Q : List (List Int) → Prop}
  (hQ : Ep (fun k => impl_LaplacianOf.l0 k (M ++ [lapRow n es (v : Int)]) ((v + 1 : Nat) : Int) (n : Int) es) Q) : ∀ (d i : Nat) (x : List Int), i + d = n → Rep n x (fun w => if w < i then - mult es (v : Int) w else 0) →
  Ep (fun k => impl_LaplacianOf.l1 k M (v : Int) x (n : Int) (i : Int) (n : Int) es) Q := by
 intro d
 induction d with
 | zero =>
  intro i x hi hx
  refine Ep.up ?_
  simp only [impl_LaplacianOf.l1]
  refine Ep.neg (by omega) (Ep.bind (implValence _ es _ (by omega)) ?_)
  rintro _ rfl
  refine Ep.pos (by omega) (Ep.pos (by have := hx.1; omega) (Ep.pos (by omega) ?_))
  have e : x.set ((v : Int)).toNat (valG (n : Int) es (v : Int)) = lapRow n es (v : Int) := ((hx.set (v := (v : Int)) (by omega) (by omega) _).congr fun w w0 w1 => by
   unfold lapM
   by_cases c : w = v
   ·rw [if_pos c, if_pos c.symm, valG_in ⟨by omega, by omega⟩]
   ·rw [if_neg c, if_pos (by omega), if_neg (fun q => c q.symm)]).eq
  rw [e, wrap_succ (by omega)]
  exact hQ
 | succ d ih =>
  intro i x hi hx
  refine Ep.up ?_
  simp only [impl_LaplacianOf.l1]
  refine Ep.pos (by omega) (Ep.bind (implMult _ es hes hel _ _ ⟨by omega, by omega⟩ ⟨by omega, by omega⟩) ?_)
  rintro _ rfl
  have hm0 := mult_nonneg es (v : Int) (i : Int)
  have hm1 := mult_le es (v : Int) (i : Int)
  refine Ep.pos (by omega) (Ep.pos (by have := hx.1; omega) ?_)
  rw [wrap_id (by omega) (by omega), wrap_succ (by omega)]
  refine ih (i + 1) _ (by omega) ((hx.set (v := (i : Int)) (by omega) (by omega) _).congr fun w w0 w1 => ?_)
  by_cases c : w = i
  ·rw [if_pos c, if_pos (by omega), c]
  ·rw [if_neg c]
   by_cases c2 : w < i
   ·rw [if_pos c2, if_pos (by omega)]
   ·rw [if_neg c2, if_neg (by omega)]
theorem lapL_take {n : Nat} (es : List E) {v : Nat} (hv : v < n) : (lapL n es).take (v + 1) = (lapL n es).take v ++ [lapRow n es (v : Int)] := by
 rw [List.take_succ_eq_append_getElem (by rw [lapL_len]; exact hv)]
 simp [lapL]
theorem implLap_l0 {n : Nat} {es : List E} (hes : ∀ e ∈ es, EOk n e) (hel : es.length ≤ 12) (hn : n ≤ 6) : ∀ (d v : Nat), v + d = n → Ep (fun k => impl_LaplacianOf.l0 k ((lapL n es).take v) (v : Int) (n : Int) es) (· = lapL n es) := by
 intro d
 induction d with
 | zero =>
  intro v hv
  refine Ep.up ?_
  simp only [impl_LaplacianOf.l0]
  refine Ep.neg (by omega) (Ep.now ?_)
  rw [List.take_of_length_le (by rw [lapL_len]; omega)]
 | succ d ih =>
  intro v hv
  have h1 := ih (v + 1) (by omega)
  rw [lapL_take es (by omega)] at h1
  refine Ep.up ?_
  simp only [impl_LaplacianOf.l0]
  refine Ep.pos (by omega) (Ep.pos (by omega) (Ep.pos (by omega) (Ep.bind0 rfl ?_)))
  rw [Int.toNat_natCast, List.length_replicate]
  exact implLap_l1 hes hel hn (by rw [List.length_take]; omega) (by omega) h1 n 0 _ (by omega) ((Rep.zero n).congr fun w w0 w1 => by rw [if_neg (by omega)])
theorem implLap {n : Nat} {es : List E} (hg : GOk (n : Int) es) : Ep (fun k => impl_LaplacianOf.f k (n : Int) es) (· = lapL n es) := by
 have hG := hg.1
 unfold EsOk at hG
 simp only [impl_LaplacianOf.f]
 refine Ep.bind0 (implGraph _ _) ?_
 rw [gOk_iff.2 hg]
 refine Ep.pos rfl ?_
 have := implLap_l0 (n := n) hG.2.2.2 hG.2.2.1 (by omega) n 0 (by omega)
 simpa using this
def vsL (n q : Nat) : List Int := ((List.range n).eraseIdx q).map fun i : Nat => (i : Int)
theorem vsL_nodup (n q : Nat) : (vsL n q).Nodup := by
 unfold vsL
 refine List.Pairwise.map _ (fun a b h => ?_) ((List.nodup_range (n := n)).sublist (List.eraseIdx_sublist _ _))
 omega
theorem vsL_mem {n q : Nat} (hq : q < n) {v : Int} : v ∈ vsL n q ↔ (0 ≤ v ∧ v < n) ∧ v ≠ q := by
 unfold vsL
 rw [List.mem_map]
 constructor
 ·rintro ⟨i, hi, rfl⟩
  rw [List.mem_eraseIdx_iff_getElem] at hi
  obtain ⟨j, hj, hjq, hje⟩ := hi
  simp at hj hje
  omega
 ·rintro ⟨⟨h0, h1⟩, h2⟩
  refine ⟨v.toNat, ?_, by omega⟩
  rw [List.mem_eraseIdx_iff_getElem]
  exact ⟨v.toNat, by simp; omega, by omega, by simp⟩
theorem vsL_len {n q : Nat} (hq : q < n) : (vsL n q).length = n - 1 := by
 unfold vsL
 rw [List.length_map, List.length_eraseIdx, if_pos (by simpa using hq), List.length_range]
def redM (n : Nat) (es : List E) (q : Nat) : List (List Int) := (vsL n q).map fun r => (vsL n q).map fun c => lapM es r c
theorem redM_len {n q : Nat} (hq : q < n) (es : List E) : (redM n es q).length = n - 1 := by unfold redM; rw [List.length_map, vsL_len hq]
theorem keep_erase (q : Nat) (L : List (List Int)) : ∀ i, i ≤ L.length → keepF q L i = ((L.take i).eraseIdx q).map fun r => r.eraseIdx q
 | 0, _ => by simp [keepF]
 | i + 1, h => by
  have hi : i < L.length := by omega
  have ih := keep_erase q L i (by omega)
  unfold keepF
  have hl : (L.take i).length = i := by rw [List.length_take]; omega
  rw [List.take_succ_eq_append_getElem hi]
  by_cases c : i = q
  ·rw [if_pos c, ih, List.eraseIdx_append_of_length_le (by omega), hl, show q - i = 0 by omega, List.eraseIdx_of_length_le (l := L.take i) (by omega)]
   simp
  ·rw [if_neg c, ih]
   have hg : L.getD i [] = L[i] := by simp [List.getD, hi]
   rw [hg]
   by_cases d : q < i
   ·rw [List.eraseIdx_append_of_lt_length (by omega)]
    simp
   ·rw [List.eraseIdx_append_of_length_le (by omega), List.eraseIdx_of_length_le (l := L.take i) (by omega), List.eraseIdx_of_length_le (l := [L[i]]) (by simp; omega), List.map_append]
    rfl
theorem keep_red {n q : Nat} (es : List E) : keepF q (lapL n es) (lapL n es).length = redM n es q := by
 rw [keep_erase q _ _ (Nat.le_refl _), List.take_length]
 unfold lapL redM vsL lapRow repL
 rw [map_eraseIdx, List.map_map]
 show _ = (((List.range n).eraseIdx q).map fun i : Nat => (i : Int)).map _
 rw [List.map_map]
 refine List.map_congr_left fun r _ => ?_
 show ((List.range n).map fun c : Nat => lapM es (r : Int) (c : Int)).eraseIdx q = (((List.range n).eraseIdx q).map fun i : Nat => (i : Int)).map _
 rw [map_eraseIdx, List.map_map]
 rfl
theorem implRL {n : Nat} {es : List E} (hg : GOk (n : Int) es) {q : Nat} (hq : q < n) : Ep (fun k => impl_ReducedLaplacian.f k (n : Int) es (q : Int)) (· = redM n es q) := by
 have hG := hg.1
 unfold EsOk at hG
 simp only [impl_ReducedLaplacian.f]
 refine Ep.bind0 (isVertex_eq (n : Int) es _ (by simp [Wf, Lit.wf, IntKind.min, IntKind.max, IntKind.signed, IntKind.bits]; omega)) ?_
 refine Ep.pos (by rw [gOk_iff.2 hg]; simp; omega) ?_
 refine Ep.bind (implLap hg) ?_
 rintro _ rfl
 have e : redF (q : Int) (lapL n es) = some (redM n es q) := by
  unfold redF
  rw [if_pos, Int.toNat_natCast, keep_red]
  refine ⟨by omega, by omega, by rw [lapL_len]; omega, fun r hr => ?_⟩
  unfold lapL at hr
  obtain ⟨i, _, rfl⟩ := List.mem_map.1 hr
  unfold lapRow
  rw [repL_len]
  omega
 exact Ep.congr (fun _ => e) (Ep.now rfl)
def SqOk (m : Nat) (M : List (List Int)) : Prop := M.length = m ∧ (∀ r ∈ M, r.length = m) ∧ ∀ r ∈ M, ∀ x ∈ r, -12 ≤ x ∧ x ≤ 12
theorem rd_bd {l : List Int} (h : ∀ x ∈ l, -12 ≤ x ∧ x ≤ 12) (i : Int) : -12 ≤ rd l i ∧ rd l i ≤ 12 := by
 unfold rd
 by_cases c : i.toNat < l.length
 ·rw [List.getD_eq_getElem?_getD, List.getElem?_eq_getElem c]
  exact h _ (List.getElem_mem c)
 ·rw [List.getD_eq_getElem?_getD, List.getElem?_eq_none (by omega)]
  simp
theorem SqOk.ent {m : Nat} {M : List (List Int)} (h : SqOk m M) (r c : Int) : -12 ≤ ent M r c ∧ ent M r c ≤ 12 := by
 unfold Cf.ent
 by_cases d : r.toNat < M.length
 ·rw [List.getD_eq_getElem?_getD, List.getElem?_eq_getElem d]
  exact rd_bd (h.2.2 _ (List.getElem_mem d)) c
 ·rw [List.getD_eq_getElem?_getD, List.getElem?_eq_none (by omega)]
  simp [rd]
theorem det_bd {m : Nat} {M : List (List Int)} (h : SqOk m M) {rs cs : List Int} (hr : rs.length ≤ 5) (hc : cs.length ≤ 6) : -1934917632 ≤ detL M rs cs ∧ detL M rs cs ≤ 1934917632 := by
 have h1 := detL_bd (B := 12) (by omega) h.ent rs cs hc
 have h2 : ((6 * 12 : Int)) ^ rs.length ≤ 1934917632 := by
  match hl : rs.length, hr with
  | 0, _ => decide
  | 1, _ => decide
  | 2, _ => decide
  | 3, _ => decide
  | 4, _ => decide
  | 5, _ => decide
 omega
theorem alt_shift (n : Nat) (g : Nat → Int) (p : Nat) : alt (n + 1) (fun i => g (p + i)) = g p - alt n (fun i => g (p + 1 + i)) := by
 show g (p + 0) - _ = _
 rw [Nat.add_zero]
 congr 1
 exact alt_congr fun i _ => by show g (p + (i + 1)) = _; rw [show p + (i + 1) = p + 1 + i by omega]
theorem implDet_l0 {m : Nat} (hm : m ≤ 5) {M : List (List Int)} (hM : SqOk m M) {r : Int} {rs : List Int} (hr : 0 ≤ r ∧ r < m) (hrs : rs.length ≤ 4) {b : Nat} (hb : b < 2 ^ m)
  (ih : ∀ b' : Nat, b' < 2 ^ m → Ep (fun k => impl_determinant.f k M rs (b' : Int)) (· = detL M rs (bitsL b'))) :
  ∀ (d c : Nat) (s σ : Int), c + d = m → (σ = 1 ∨ σ = -1) → (-(c * 23219011584 : Int) ≤ s ∧ s ≤ c * 23219011584) →
   Ep (fun k => impl_determinant.l0 k M (r :: rs) (b : Int) s σ (rd_L3 M r) (m : Int) (c : Int))
    (· = s + σ * alt ((bitsL b).length - (bitsB b c).length) fun i => ent M r ((bitsL b).getD ((bitsB b c).length + i) 0) * detL M rs ((bitsL b).eraseIdx ((bitsB b c).length + i))) := by
 have h32 : (2 : Nat) ^ m ≤ 32 := by
  have := Nat.pow_le_pow_right (show 0 < 2 by omega) hm
  omega
 have hrow : (rd_L3 M r).length = m := by
  unfold rd_L3
  rw [List.getD_eq_getElem?_getD, List.getElem?_eq_getElem (by have := hM.1; omega)]
  exact hM.2.1 _ (List.getElem_mem _)
 intro d
 induction d with
 | zero =>
  intro c s σ hc hσ hs
  refine Ep.up ?_
  simp only [impl_determinant.l0]
  refine Ep.neg (by omega) (Ep.now ?_)
  have e := bm_all ⟨b, by omega⟩ ⟨c, by omega⟩ (by simp; rw [show c = m by omega]; exact hb)
  simp only at e
  rw [e, Nat.sub_self]
  simp [alt]
 | succ d ihd =>
  intro c s σ hc hσ hs
  refine Ep.up ?_
  simp only [impl_determinant.l0]
  refine Ep.pos (by omega) (Ep.pos (by omega) (Ep.pos (by omega) ?_))
  rw [wrap_succ (by omega)]
  have hsu := bitsB_succ b c
  rcases bm_val ⟨b, by omega⟩ ⟨c, by omega⟩ with ⟨b1, b2⟩ | ⟨b1, b2⟩
  ·simp only at b1 b2
   rw [if_pos b2] at hsu
   obtain ⟨m', e1, e2, e3, e4⟩ := bm_drop ⟨b, by omega⟩ ⟨c, by omega⟩ b2
   simp only at e1 e2 e3 e4
   have hp : (bitsB b c).length < (bitsL b).length := by
    rw [List.getElem?_eq_some_iff] at e3
    exact e3.1
   have hg : (bitsL b).getD (bitsB b c).length 0 = (c : Int) := by rw [List.getD_eq_getElem?_getD, e3]; rfl
   have hl1 : (bitsB b (c + 1)).length = (bitsB b c).length + 1 := by rw [hsu]; simp
   have hsplit : (bitsL b).length - (bitsB b c).length = ((bitsL b).length - (bitsB b (c + 1)).length) + 1 := by omega
   have hent : rd (rd_L3 M r) (c : Int) = ent M r (c : Int) := rfl
   have hbd := hM.ent r (c : Int)
   have hdb := det_bd hM (rs := rs) (cs := bitsL m'.val) (by omega) (by have := bitsB_len m'.val 6; exact this)
   rw [hsplit, alt_shift _ (fun i => ent M r ((bitsL b).getD i 0) * detL M rs ((bitsL b).eraseIdx i)), hg, ← e2, ← hl1]
   refine Ep.neg (by rw [b1]; omega) ?_
   rw [hent]
   by_cases hz : ent M r (c : Int) = 0
   ·refine Ep.pos hz ?_
    have hneg : wrap64 (-σ) = -σ := wrap_id (by omega) (by omega)
    rw [hneg]
    refine (ihd (c + 1) s (-σ) (by omega) (by omega) (by omega)).mono fun v hv => ?_
    rw [hv, hz, Int.zero_mul, Int.zero_sub, Int.mul_neg, Int.neg_mul]
   ·refine Ep.neg hz (Ep.pos (by rw [List.length_cons]; omega) ?_)
    rw [e1]
    refine Ep.bind (ih m'.val (by omega)) ?_
    rintro _ rfl
    have hneg : wrap64 (-σ) = -σ := wrap_id (by omega) (by omega)
    have hprod := mul_bd hbd hdb
    have e5 : wrap64 (σ * ent M r (c : Int)) = σ * ent M r (c : Int) := by
     rcases hσ with rfl | rfl
     ·exact wrap_id (by omega) (by omega)
     ·exact wrap_id (by omega) (by omega)
    have e6 : σ * ent M r (c : Int) * detL M rs (bitsL m'.val) = σ * (ent M r (c : Int) * detL M rs (bitsL m'.val)) := Int.mul_assoc _ _ _
    have hb2 : -(23219011584 : Int) ≤ σ * (ent M r (c : Int) * detL M rs (bitsL m'.val)) ∧ σ * (ent M r (c : Int) * detL M rs (bitsL m'.val)) ≤ 23219011584 := by
     rcases hσ with rfl | rfl <;> omega
    rw [e5, e6]
    have e7 : wrap64 (σ * (ent M r (c : Int) * detL M rs (bitsL m'.val))) = σ * (ent M r (c : Int) * detL M rs (bitsL m'.val)) := wrap_id (by omega) (by omega)
    have e8 : wrap64 (s + σ * (ent M r (c : Int) * detL M rs (bitsL m'.val))) = s + σ * (ent M r (c : Int) * detL M rs (bitsL m'.val)) := wrap_id (by omega) (by omega)
    rw [e7, e8, hneg]
    refine (ihd (c + 1) _ (-σ) (by omega) (by omega) (by omega)).mono fun v hv => ?_
    rw [hv, Int.mul_sub, Int.neg_mul]
    omega
  ·simp only at b1 b2
   have b2' : ¬ b.testBit c = true := by simpa using b2
   rw [if_neg b2', List.append_nil] at hsu
   refine Ep.pos b1 ?_
   have h := ihd (c + 1) s σ (by omega) hσ (by omega)
   rw [hsu] at h
   exact h
theorem implDet {m : Nat} (hm : m ≤ 5) {M : List (List Int)} (hM : SqOk m M) : ∀ (rs : List Int), rs.length ≤ 5 → (∀ r ∈ rs, 0 ≤ r ∧ r < (m : Int)) → ∀ b : Nat, b < 2 ^ m → Ep (fun k => impl_determinant.f k M rs (b : Int)) (· = detL M rs (bitsL b))
 | [], _, _, b, _ => by
  refine Ep.up ?_
  simp only [impl_determinant.f]
  exact Ep.pos rfl (Ep.now rfl)
 | r :: rs, hl, hr, b, hb => by
  have hr0 := hr r List.mem_cons_self
  have hrow : (rd_L3 M r).length = m := by
   unfold rd_L3
   rw [List.getD_eq_getElem?_getD, List.getElem?_eq_getElem (by have := hM.1; omega)]
   exact hM.2.1 _ (List.getElem_mem _)
  have ih := implDet hm hM rs (by simp at hl; omega) (fun x hx => hr x (List.mem_cons_of_mem _ hx))
  refine Ep.up ?_
  simp only [impl_determinant.f]
  have e : rd (r :: rs) 0 = r := rfl
  refine Ep.neg (by rw [List.length_cons]; omega) (Ep.pos (by rw [List.length_cons]; omega) (Ep.pos (by rw [e]; exact hr0.1) (Ep.pos (by rw [e, hM.1]; exact hr0.2) ?_)))
  rw [e, hrow]
  refine (implDet_l0 hm hM hr0 (by simp at hl; omega) hb ih m 0 0 1 (by omega) (Or.inl rfl) (by omega)).mono fun v hv => ?_
  rw [hv, show (bitsB b 0).length = 0 from rfl]
  simp only [Nat.sub_zero, Nat.zero_add, Int.zero_add, Int.one_mul]
  rfl
end Go.Proofs.Ytkcbinohpdhbgaa.Cf
end

