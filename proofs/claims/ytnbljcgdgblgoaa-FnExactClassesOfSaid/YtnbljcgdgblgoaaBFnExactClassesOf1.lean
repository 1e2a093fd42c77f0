/- A part of the proof of FnExactClassesOf. -/
import Derived.Test.YtnbljcgdgblgoaaBFnExactClassesOf0
import Derived.Deep.LoopGhost
import Derived.Test.YtnbljcgdgblgoaaBFnExactClassesOfWApart
import Derived.Test.YtnbljcgdgblgoaaBFnExactClassesOfWMore
import Derived.Test.YtnbljcgdgblgoaaBFnExactClassesOfWWords
set_option maxHeartbeats 8000000
set_option maxRecDepth 1000000
section
namespace Go.Proofs.Ytnbljcgdgblgoaa.P
open Go.RowKit Go.Proofs.YtnbljcgdgblgoaaW.PrintWords Go.Proofs.YtnbljcgdgblgoaaW.PrintLast Go.Proofs.YtnbljcgdgblgoaaW.PrintMore
attribute [local go_sem] max2_int min2_int max_two min_two max_three min_three max_four min_four
set_option linter.unusedVariables false
set_option linter.unusedSimpArgs false
def spec_GraphOk.l0 : Nat → List (S57) → Int → Int → Int → List (S57) → Option (Bool)
 | 0, _, _, _, _, _ => none
 | k + 1, x9, fE, eH, aM, aJ => if eH < fE then (if 0 ≤ eH then (if eH < (x9.length : Int) then (if eH > 0 then (if 0 ≤ (wrap64 (eH - 1)) then (if (wrap64 (eH - 1)) < (aJ.length : Int) then (if ((rd_T57 x9 eH).f0) < ((rd_T57 aJ (wrap64 (eH - 1))).f0) then (some false) else (if ((rd_T57 x9 eH).f0) = ((rd_T57 aJ (wrap64 (eH - 1))).f0) then (if ((rd_T57 x9 eH).f1) < ((rd_T57 aJ (wrap64 (eH - 1))).f1) then (some false) else (spec_GraphOk.l0 k x9 fE (wrap64 (eH + 1)) aM aJ)) else (spec_GraphOk.l0 k x9 fE (wrap64 (eH + 1)) aM aJ))) else (none)) else (none)) else (spec_GraphOk.l0 k x9 fE (wrap64 (eH + 1)) aM aJ)) else (none)) else (none)) else ((spec_l02Reach.f k aM aJ).bind fun fN => (some ((fN.length : Int) == aM)))
def spec_GraphOk.f (k : Nat) (aD : Int) (aC : List (S57)) : Option (Bool) := (spec_EdgesOk.f k aD aC).bind fun bA => (if bA = true then (spec_GraphOk.l0 k aC (aC.length : Int) 0 aD aC) else (some false))
theorem spec_GraphOk.mono_l : ∀ k, (∀ y0 y1 y2 y3 y4, LeO (spec_GraphOk.l0 k y0 y1 y2 y3 y4) (spec_GraphOk.l0 (k + 1) y0 y1 y2 y3 y4))
 | 0 => fun _ _ _ _ _ r h => by simp [spec_GraphOk.l0] at h
 | k + 1 => by
  have ih0 := spec_GraphOk.mono_l k
  ·intro y0 y1 y2 y3 y4
   unfold spec_GraphOk.l0
   exact zm10
theorem spec_GraphOk.mono : ∀ a0 a1 k, LeO (spec_GraphOk.f k a0 a1) (spec_GraphOk.f (k + 1) a0 a1) := by
 intro a0 a1 k; have ih0 := spec_GraphOk.mono_l k; unfold spec_GraphOk.f; exact zm10
def spec_GraphOk.T6 : Bool × List (List Nat × List Nat) := (true, [([], []), ([0], [0]), ([1], [1]), ([2], [2]), ([3, 2], [2, 3]), ([2], [2]), ([5, 2], [2, 5]), ([2], [2]), ([7, 2], [2, 7]), ([6, 8, 2], [2, 6, 8]), ([9, 2], [2, 9]), ([10, 2], [2, 10]), ([4, 11, 2], [2, 4, 11]), ([12, 2, 2], [2, 12]), ([13], [13]), ([14, 13], [13, 14]), ([13], [13]), ([16, 13], [13, 16]), ([13], [13]), ([18, 13], [13, 18]), ([17, 19, 13], [13, 17, 19]), ([20, 13], [13, 20]), ([21, 13], [13, 21]), ([15, 22, 13], [13, 15, 22]), ([23, 13, 13], [13, 23]), ([24], [24]), ([25, 24], [24, 25]), ([24], [24]), ([27, 24], [24, 27]), ([24], [24]), ([29, 24], [24, 29]), ([28, 30, 24], [24, 28, 30]), ([31, 24], [24, 31]), ([32, 24], [24, 32]), ([26, 33, 24], [24, 26, 33]), ([24, 34, 13], [13, 24, 34]), ([13, 35, 2], [2, 13, 35]), ([2, 36], [2, 36])])
def spec_GraphOk.B6 : List Nat := [0, 1, 3, 7, 15, 7, 39, 7, 135, 487, 999, 2023, 4095, 8191, 16383, 32767, 16383, 81919, 16383, 278527, 999423, 2047999, 4145151, 8388607, 16777215, 33554431, 67108863, 33554431, 167772159, 33554431, 570425343, 2046820351, 4194303999, 8489271295, 17179869183, 34359738367, 68719476735, 137438953471]
theorem spec_GraphOk.tab6 : rtab .any (opsOf Try.f55 6) = spec_GraphOk.T6 := by kernel_rfl
theorem spec_GraphOk.bits6 : waitsOk spec_GraphOk.T6.2 spec_GraphOk.B6 = true := by kernel_rfl
theorem spec_GraphOk.calls (k : Nat) (aD : Int) (aH : Option Addr) (aG : Nat) (aC : List (S57)) (r : Bool) (w : World) (hr0_1 : Kd.C k57 w aH aC.length aC) (hc0_1 : aC.length ≤ aG) (h : spec_GraphOk.f k aD aC = some r) :
  Calls Try.prog 55 #[.agg #[.int .i64 aD, .slice aH aC.length aG]] w fun e w' => e = .returned (.bool r) ∧ Below w.heap.size w w' := by
 have hu25 := Try.underlying25; have hu57 := Try.underlying57; have bM := zK_ hr0_1; have bG := zK_ hc0_1; clear hr0_1 hc0_1; have HB := zK_ (Below.refl w.heap.size w); have H : ((spec_EdgesOk.f k aD aC).bind fun bA => (if bA = true then (spec_GraphOk.l0 k aC (aC.length : Int) 0 aD aC) else (some false))) = some r := h; clear h; obtain ⟨bA, A20, H⟩ := zO_ H; (try dsimp only at H); have A2 := zK_ A20; clear A20; by_cases c3 : bA = true; rotate_left
 ·replace c3 := Bool.eq_false_iff.mpr c3; subst c3; rw [if_neg (show ¬ (false = true) by decide)] at H; obtain rfl := Option.some.inj H; go_enter Try.func55, Try.ntmps55; (go_wp2_with (first | ((with_reducible refine gate_dst (N := 1) rfl ?_); refine box_event ?hg (N := 1) ?hd (cs := #[.int .i64 aD, .slice aH aC.length aG]) (t := 25) ?hr ?_; (case hd => rfl); (case hg => rfl); (case hr => exact zz9); intro aE hg w47 hbox hb; have n_ := zA4 (below_step zz1 hb) hbox (zz10 : w.heap.size ≤ aE) (zz10 : w.heap.size ≤ aE); clear HB; obtain ⟨HB, aA, GW101, GE101⟩ := n_; clear hb hbox hg; have vG := zC20 aA; have vF := zC21 aA; have uE := blk_frozen aA.out 0; have uD := blk_frozen aA.out 1) | ((with_reducible refine gate_callee (f := 93) rfl ?_); refine goesL_ (some 6) rfl rfl Try.func93 (by kernel_rfl) rfl #[.agg #[.int .i64 aD, .slice aH aC.length aG]] rfl zz4 ?_; (with_reducible refine (spec_EdgesOk.calls k aD _ _ aC false _ ?side1 ?side2 A2.out).mono ?_); (case side1 => exact zz6); (case side2 => exact bG.out); rintro e w49 ⟨rfl, hb⟩; refine ⟨_, rfl, ?_⟩; have n_ := zA2 (blk_below (g := aE) (o := .cells #[.int .i64 aD, .slice aH aC.length aG] 25 (0, 0)) zz2 hb) (below_step zz0 hb); clear aA HB; obtain ⟨aA, HB⟩ := n_; clear hb))); go_ret; exact ⟨zz7, zz0⟩
 subst c3; rw [if_pos rfl] at H; have H' := zK_ H; clear H; go_enter Try.func55, Try.ntmps55; (go_wp2_with (first | ((with_reducible refine gate_dst (N := 1) rfl ?_); refine box_event ?hg (N := 1) ?hd (cs := #[.int .i64 aD, .slice aH aC.length aG]) (t := 25) ?hr ?_; (case hd => rfl); (case hg => rfl); (case hr => exact zz9); intro aE hg w4 hbox hb; have n_ := zA4 (below_step zz1 hb) hbox (zz10 : w.heap.size ≤ aE) (zz10 : w.heap.size ≤ aE); clear HB; obtain ⟨HB, aA, GW101, GE101⟩ := n_; clear hb hbox hg; have iC := zC20 aA; have iB := zC21 aA; have iA := blk_frozen aA.out 0; have hY := blk_frozen aA.out 1) | ((with_reducible refine gate_callee (f := 93) rfl ?_); refine goesL_ (some 6) rfl rfl Try.func93 (by kernel_rfl) rfl #[.agg #[.int .i64 aD, .slice aH aC.length aG]] rfl zz4 ?_; (with_reducible refine (spec_EdgesOk.calls k aD _ _ aC true _ ?side1 ?side2 A2.out).mono ?_); (case side1 => exact zz6); (case side2 => exact bG.out); rintro e w6 ⟨rfl, hb⟩; refine ⟨_, rfl, ?_⟩; have n_ := zA2 (blk_below (g := aE) (o := .cells #[.int .i64 aD, .slice aH aC.length aG] 25 (0, 0)) zz2 hb) (below_step zz0 hb); clear aA HB; obtain ⟨aA, HB⟩ := n_; clear hb; have eE := zC20 aA; have d9 := zC21 aA; have dX := blk_frozen aA.out 0; have dW := blk_frozen aA.out 1))); (go_loopg [11] k (fun kq v11 w' => ∃ (aI : Int), v11 = .int .i64 aI ∧ Aside0 (spec_GraphOk.l0 kq aC (aC.length : Int) aI aD aC = some r) ∧ Aside0 (kq ≤ k) ∧ Aside0 (w'.heap[aE]? = some (.cells #[.int .i64 aD, (.slice aH aC.length aG)] 25 (0, 0))) ∧ Aside0 (Below w.heap.size w w'))); case atStart => exact ⟨(0), zz5, H', ⟨Nat.le_refl _⟩, ⟨zz2⟩, ⟨zz0⟩⟩
 case round =>
  clear H'; (try clear p2); (try clear c3); (try clear c5); (try clear iC); (try clear iB); (try clear eE); (try clear d9); (try clear iA); (try clear hY); (try clear dX); (try clear dW); obtain ⟨aI, rfl, HA, HK1, aA, HB⟩ := hrel
  cases gk with
  | zero => exact absurd HA.out (by simp [spec_GraphOk.l0])
  | succ k1 =>
   have H := HA.out; clear HA; simp only [spec_GraphOk.l0] at H; by_cases c8 : aI < (aC.length : Int); rotate_left
   ·rw [if_neg c8] at H; have fL := decide_eq_false c8; clear c8; obtain ⟨fN, A430, H⟩ := zO_ H; (try dsimp only at H); have A43 := zK_ A430; clear A430; obtain rfl := Option.some.inj H; (try go_wp2); have n_ := zA2 (blk_drew aA.out) (below_drew1 HB.out); clear aA HB; obtain ⟨aA, HB⟩ := n_; refine start_ (n := 7) (S := fun w' => w'.cell? ⟨aE, 0, none⟩ = some (.int .i64 aD) ∧ w'.cell? ⟨aE, 1, none⟩ = some (.slice aH aC.length aG)) (ds := []) (zM 7 0) (by kernel_rfl) rfl rfl ⟨(blk_cell aA.out 0).trans rfl, (blk_cell aA.out 1).trans rfl⟩ (fun hHeld => ?_); generalize wr.drew = w44 at aA HB hHeld ⊢; refine pure_ (i := 3) (N := some 58) (v := ?_) (a' := ?_) (zM 7 8) rfl rfl (by kernel_rfl) (fun _ _ _ h => h) (Or.inl ⟨by rfl, ?_⟩) ?_ ?_; rotate_left
    ·intro w'; exact zzT
    rotate_left
    ·exact zzS
    refine take_ (i := 0) (N := some 55) (v := ?_) (a' := ?_) (zM 7 9) rfl rfl (by kernel_rfl) (fun _ _ _ h => h) (Or.inl ⟨by rfl, ?_⟩) hHeld ?_ ?_; rotate_left
    ·rintro w' ⟨s0, s1⟩; exact zzT
    rotate_left
    ·exact zzS
    refine take_ (i := 4) (N := some 59) (v := ?_) (a' := ?_) (zM 7 25) rfl rfl (by kernel_rfl) (fun _ _ _ h => h) (Or.inl ⟨by rfl, ?_⟩) hHeld ?_ ?_; rotate_left
    ·rintro w' ⟨s0, s1⟩; exact zzT
    rotate_left
    ·exact zzS
    refine one_ (i := 1) (N := some 56) (zM 7 27) rfl rfl (by kernel_rfl) (by decide) (fun K hK => ?_); refine goes_ Try.func94 (by kernel_rfl) rfl #[.agg #[.int .i64 aD, .slice aH aC.length aG]] (by rfl) rfl rfl zz4 ?_; (with_reducible refine (spec_l02Reach.calls k1 aD _ _ aC fN _ ?side1 ?side2 A43.out).mono ?_); (case side1 => exact zz6); (case side2 => exact bG.out); rintro e w45 ⟨v109, rfl, ho0, hb⟩; refine ⟨_, rfl, ?_⟩; have n_ := zA3 (Kd.R_lower ho0 (below_size zz0)) (blk_below (g := aE) (o := .cells #[.int .i64 aD, .slice aH aC.length aG] 25 (0, 0)) zz2 hb) (below_step zz0 hb); clear aA HB; obtain ⟨pU, aA, HB⟩ := n_; clear ho0 hb; obtain ⟨Ao46, co46, sK⟩ := Kd.R_slice pU.out; (first | subst sK | (injection sK with f1_ f2_ f3_; have f4_ := f1_.symm; have f5_ := f3_.symm; clear f1_ f2_ f3_; subst f4_; subst f5_)); refine hK.out _ _ ⟨(blk_cell aA.out 0).trans rfl, (blk_cell aA.out 1).trans rfl⟩ (fun hHeld => ?_); clear hK K; refine norm_ (a' := ?_) ?_ ?_; rotate_left
    ·show Act.put _ (some 56) _ = _; exact zzS
    refine pure_ (i := 2) (N := some 57) (v := ?_) (a' := ?_) (zM 7 31) rfl rfl (by kernel_rfl) (fun _ _ _ h => h) (Or.inl ⟨by rfl, ?_⟩) ?_ ?_; rotate_left
    ·intro w'; exact zzT
    rotate_left
    ·exact zzS
    refine pure_ (i := 5) (N := some 60) (v := ?_) (a' := ?_) (zM 7 63) rfl rfl (by kernel_rfl) (fun _ _ _ h => h) (Or.inl ⟨by rfl, ?_⟩) ?_ ?_; rotate_left
    ·intro w'; exact zzT
    rotate_left
    ·exact zzS
    refine pure_ (i := 6) (N := some 2) (v := ?_) (a' := ?_) (zM 7 127) rfl rfl (by kernel_rfl) (fun _ _ _ h => h) (Or.inl ⟨by rfl, ?_⟩) ?_ ?_; rotate_left
    ·intro w'; exact zzT
    rotate_left
    ·exact zzS
    refine done_ (by kernel_rfl) ?_; (try go_wp2); go_ret; exact ⟨zz7, zz0⟩
   rw [if_pos c8] at H; have fL := decide_eq_true c8; clear c8; by_cases c9 : 0 ≤ aI; rotate_left
   ·rw [if_neg c9] at H; exact absurd H (by simp)
   rw [if_pos c9] at H; have fJ := decide_eq_true c9; clear c9; by_cases c10 : aI < (aC.length : Int); rotate_left
   ·rw [if_neg c10] at H; exact absurd H (by simp)
   rw [if_pos c10] at H; have gN := decide_eq_true c10; clear c10; by_cases c11 : aI > 0; rotate_left
   ·rw [if_neg c11] at H; have jY : decide (0 < aI) = false := decide_eq_false c11; clear c11; have H' := zK_ H; clear H; have p103 : 0 ≤ (aI : Int) := of_decide_eq_true zz3; have q103 : aI < (aC.length : Int) := of_decide_eq_true zz3; obtain ⟨bD, e103, aQ, a6⟩ := at_T57 bM.out aI p103 q103; cases e103; replace aQ := (HB.out.cell (World.block_lt_of_cell? w _ aQ)).trans aQ; replace a6 := (HB.out.cell (World.block_lt_of_cell? w _ a6)).trans a6; replace p103 := eq_true p103; replace q103 := eq_true q103; (try go_wp2_with (first | ((with_reducible refine gate_dst (N := 4) rfl ?_); refine box_event ?hg (N := 4) ?hd (cs := #[.int .i64 0, .int .i64 0]) (t := 57) ?hr ?_; (case hd => rfl); (case hg => rfl); (case hr => exact zz9); intro aW hg w38 hbox hb; have n_ := zA7 (blk_below (g := aE) (o := .cells #[.int .i64 aD, .slice (some bD) aC.length aG] 25 (0, 0)) zz2 hb) (below_step zz0 hb) hbox (zz13 : w.heap.size ≤ aW) (zz13 : w.heap.size ≤ aW) (zz16 : aE ≠ aW) (zz17 : aW ≠ aE); clear aA HB; obtain ⟨aA, HB, aY, GW104, GE104, bH, bI⟩ := n_; clear hb hbox hg; have zZ := bI.out; have yZ := bH.out; have vK := zC20 aY; have vJ := zC21 aY; have uI := blk_frozen aY.out 0; have uH := blk_frozen aY.out 1))); have n0_ : Aside0 (((w38.setCell ⟨aW, 0, none⟩ (.int .i64 ((rd_T57 aC aI).f0))).setCell ⟨aW, 1, none⟩ (.int .i64 ((rd_T57 aC aI).f1))).heap[aE]? = some (.cells #[.int .i64 aD, .slice (some bD) aC.length aG] 25 (0, 0))) := ⟨zz12⟩; have n1_ : Aside0 (((w38.setCell ⟨aW, 0, none⟩ (.int .i64 ((rd_T57 aC aI).f0))).setCell ⟨aW, 1, none⟩ (.int .i64 ((rd_T57 aC aI).f1))).heap[aW]? = some (.cells #[.int .i64 ((rd_T57 aC aI).f0), .int .i64 ((rd_T57 aC aI).f1)] 57 (0, 0))) := ⟨zz18⟩; have n2_ : Aside0 (Below w.heap.size w ((w38.setCell ⟨aW, 0, none⟩ (.int .i64 ((rd_T57 aC aI).f0))).setCell ⟨aW, 1, none⟩ (.int .i64 ((rd_T57 aC aI).f1)))) := ⟨zz11⟩; (try clear aA); (try clear aY); (try clear HB); generalize ((w38.setCell ⟨aW, 0, none⟩ (.int .i64 ((rd_T57 aC aI).f0))).setCell ⟨aW, 1, none⟩ (.int .i64 ((rd_T57 aC aI).f1))) = w41 at n0_ n1_ n2_ ⊢; have aA := n0_; have aY := n1_; have HB := n2_; clear n0_ n1_ n2_; have n_ := zA3 (blk_drew aA.out) (blk_drew aY.out) (below_drew1 HB.out); clear aA aY HB; obtain ⟨aA, aY, HB⟩ := n_; refine start_ (n := 38) (S := fun w' => True) (ds := []) (zM 38 0) (by kernel_rfl) rfl rfl trivial (fun hHeld => ?_); refine with_tabW spec_GraphOk.tab6 spec_GraphOk.bits6 (fun HT_ HW_ => ?_); generalize w41.drew = w42 at aA aY HB hHeld ⊢; refine zQ 0 16 (zM 38 1) ?_
    refine zQ 1 17 (zM 38 3) ?_
    refine zQ 2 18 (zM 38 7) ?_
    refine zU 3 19 (zM 38 15) rfl rfl HT_.out ?_ ?_ ?_; rotate_left
    ·exact zzS
    refine zU 4 20 (zM 38 31) rfl rfl HT_.out ?_ ?_ ?_; rotate_left
    ·exact zzS
    refine zU 5 21 (zM 38 63) rfl rfl HT_.out ?_ ?_ ?_; rotate_left
    ·exact zzS
    refine zU 6 22 (zM 38 127) rfl rfl HT_.out ?_ ?_ ?_; rotate_left
    ·exact zzS
    refine zU 7 23 (zM 38 255) rfl rfl HT_.out ?_ ?_ ?_; rotate_left
    ·exact zzS
    refine zU 8 24 (zM 38 511) rfl rfl HT_.out ?_ ?_ ?_; rotate_left
    ·exact zzS
    refine zU 9 25 (zM 38 1023) rfl rfl HT_.out ?_ ?_ ?_; rotate_left
    ·exact zzS
    refine zU 10 26 (zM 38 2047) rfl rfl HT_.out ?_ ?_ ?_; rotate_left
    ·exact zzS
    refine zU 11 27 (zM 38 4095) rfl rfl HT_.out ?_ ?_ ?_; rotate_left
    ·exact zzS
    refine zU 12 28 (zM 38 8191) rfl rfl HT_.out ?_ ?_ ?_; rotate_left
    ·exact zzS
    refine zU 13 29 (zM 38 16383) rfl rfl HT_.out ?_ ?_ ?_; rotate_left
    ·exact zzS
    refine zU 14 30 (zM 38 32767) rfl rfl HT_.out ?_ ?_ ?_; rotate_left
    ·exact zzS
    refine zU 15 31 (zM 38 65535) rfl rfl HT_.out ?_ ?_ ?_; rotate_left
    ·exact zzS
    refine zU 16 32 (zM 38 131071) rfl rfl HT_.out ?_ ?_ ?_; rotate_left
    ·exact zzS
    refine zU 17 33 (zM 38 262143) rfl rfl HT_.out ?_ ?_ ?_; rotate_left
    ·exact zzS
    refine zU 18 34 (zM 38 524287) rfl rfl HT_.out ?_ ?_ ?_; rotate_left
    ·exact zzS
    refine zU 19 35 (zM 38 1048575) rfl rfl HT_.out ?_ ?_ ?_; rotate_left
    ·exact zzS
    refine zU 20 36 (zM 38 2097151) rfl rfl HT_.out ?_ ?_ ?_; rotate_left
    ·exact zzS
    refine zU 21 37 (zM 38 4194303) rfl rfl HT_.out ?_ ?_ ?_; rotate_left
    ·exact zzS
    refine zU 22 38 (zM 38 8388607) rfl rfl HT_.out ?_ ?_ ?_; rotate_left
    ·exact zzS
    refine zU 23 39 (zM 38 16777215) rfl rfl HT_.out ?_ ?_ ?_; rotate_left
    ·exact zzS
    refine zU 24 40 (zM 38 33554431) rfl rfl HT_.out ?_ ?_ ?_; rotate_left
    ·exact zzS
    refine zU 25 41 (zM 38 67108863) rfl rfl HT_.out ?_ ?_ ?_; rotate_left
    ·exact zzS
    refine zU 26 42 (zM 38 134217727) rfl rfl HT_.out ?_ ?_ ?_; rotate_left
    ·exact zzS
    refine zU 27 43 (zM 38 268435455) rfl rfl HT_.out ?_ ?_ ?_; rotate_left
    ·exact zzS
    refine zU 28 44 (zM 38 536870911) rfl rfl HT_.out ?_ ?_ ?_; rotate_left
    ·exact zzS
    refine zU 29 45 (zM 38 1073741823) rfl rfl HT_.out ?_ ?_ ?_; rotate_left
    ·exact zzS
    refine zU 30 46 (zM 38 2147483647) rfl rfl HT_.out ?_ ?_ ?_; rotate_left
    ·exact zzS
    refine zU 31 47 (zM 38 4294967295) rfl rfl HT_.out ?_ ?_ ?_; rotate_left
    ·exact zzS
    refine zU 32 48 (zM 38 8589934591) rfl rfl HT_.out ?_ ?_ ?_; rotate_left
    ·exact zzS
    refine zU 33 49 (zM 38 17179869183) rfl rfl HT_.out ?_ ?_ ?_; rotate_left
    ·exact zzS
    refine zU 34 50 (zM 38 34359738367) rfl rfl HT_.out ?_ ?_ ?_; rotate_left
    ·exact zzS
    refine zU 35 51 (zM 38 68719476735) rfl rfl HT_.out ?_ ?_ ?_; rotate_left
    ·exact zzS
    refine zU 36 52 (zM 38 137438953471) rfl rfl HT_.out ?_ ?_ ?_; rotate_left
    ·exact zzS
    refine zQ 37 53 (zM 38 274877906943) ?_
    refine done_ (done_of HT_.out (by kernel_rfl)) ?_; (try go_wp2); go_roundg k1; (case measure => have := HK1.out; omega); case rel => exact ⟨(wrap64 (aI + 1)), zz5, H', ⟨zz34⟩, ⟨zz2⟩, ⟨zz11⟩⟩
   rw [if_pos c11] at H; have jY : decide (0 < aI) = true := decide_eq_true c11; clear c11; obtain ⟨bO, iU⟩ : ∃ j_ : Int, (wrap64 (aI - 1)) = j_ := ⟨_, rfl⟩; (replace H : (if 0 ≤ (bO) then (if (bO) < (aC.length : Int) then (if ((rd_T57 aC aI).f0) < ((rd_T57 aC (bO)).f0) then (some false) else (if ((rd_T57 aC aI).f0) = ((rd_T57 aC (bO)).f0) then (if ((rd_T57 aC aI).f1) < ((rd_T57 aC (bO)).f1) then (some false) else (spec_GraphOk.l0 k1 aC (aC.length : Int) (wrap64 (aI + 1)) aD aC)) else (spec_GraphOk.l0 k1 aC (aC.length : Int) (wrap64 (aI + 1)) aD aC))) else (none)) else (none)) = some r := by first | (rw [iU] at H; exact H) | (simp only [iU] at H ⊢; exact H)); have xO : (IntKind.i64.wrap (aI - 1)) = bO := (i64_w _).trans iU; by_cases c13 : 0 ≤ (bO); rotate_left
   ·rw [if_neg c13] at H; exact absurd H (by simp)
   rw [if_pos c13] at H; have iW := decide_eq_true c13; clear c13; by_cases c14 : (bO) < (aC.length : Int); rotate_left
   ·rw [if_neg c14] at H; exact absurd H (by simp)
   rw [if_pos c14] at H; have gE := decide_eq_true c14; clear c14; by_cases c15 : ((rd_T57 aC aI).f0) < ((rd_T57 aC (bO)).f0)
   ·rw [if_pos c15] at H; have iF := decide_eq_true c15; clear c15; obtain rfl := Option.some.inj H; have p103 : 0 ≤ (aI : Int) := of_decide_eq_true zz3; have q103 : aI < (aC.length : Int) := of_decide_eq_true zz3; obtain ⟨bD, e103, aQ, a6⟩ := at_T57 bM.out aI p103 q103; cases e103; replace aQ := (HB.out.cell (World.block_lt_of_cell? w _ aQ)).trans aQ; replace a6 := (HB.out.cell (World.block_lt_of_cell? w _ a6)).trans a6; replace p103 := eq_true p103; replace q103 := eq_true q103; (try go_wp2_with (first | ((with_reducible refine gate_dst (N := 4) rfl ?_); refine box_event ?hg (N := 4) ?hd (cs := #[.int .i64 0, .int .i64 0]) (t := 57) ?hr ?_; (case hd => rfl); (case hg => rfl); (case hr => exact zz9); intro aW hg w16 hbox hb; have n_ := zA7 (blk_below (g := aE) (o := .cells #[.int .i64 aD, .slice (some bD) aC.length aG] 25 (0, 0)) zz2 hb) (below_step zz0 hb) hbox (zz13 : w.heap.size ≤ aW) (zz13 : w.heap.size ≤ aW) (zz16 : aE ≠ aW) (zz17 : aW ≠ aE); clear aA HB; obtain ⟨aA, HB, aY, GW104, GE104, bH, bI⟩ := n_; clear hb hbox hg; have r9 := bI.out; have r5 := bH.out; have kH := zC20 aY; have kG := zC21 aY; have kB := blk_frozen aY.out 0; have kA := blk_frozen aY.out 1))); have n0_ : Aside0 (((w16.setCell ⟨aW, 0, none⟩ (.int .i64 ((rd_T57 aC aI).f0))).setCell ⟨aW, 1, none⟩ (.int .i64 ((rd_T57 aC aI).f1))).heap[aE]? = some (.cells #[.int .i64 aD, .slice (some bD) aC.length aG] 25 (0, 0))) := ⟨zz12⟩; have n1_ : Aside0 (((w16.setCell ⟨aW, 0, none⟩ (.int .i64 ((rd_T57 aC aI).f0))).setCell ⟨aW, 1, none⟩ (.int .i64 ((rd_T57 aC aI).f1))).heap[aW]? = some (.cells #[.int .i64 ((rd_T57 aC aI).f0), .int .i64 ((rd_T57 aC aI).f1)] 57 (0, 0))) := ⟨zz18⟩; have n2_ : Aside0 (Below w.heap.size w ((w16.setCell ⟨aW, 0, none⟩ (.int .i64 ((rd_T57 aC aI).f0))).setCell ⟨aW, 1, none⟩ (.int .i64 ((rd_T57 aC aI).f1)))) := ⟨zz11⟩; (try clear aA); (try clear aY); (try clear HB); generalize ((w16.setCell ⟨aW, 0, none⟩ (.int .i64 ((rd_T57 aC aI).f0))).setCell ⟨aW, 1, none⟩ (.int .i64 ((rd_T57 aC aI).f1))) = w19 at n0_ n1_ n2_ ⊢; have aA := n0_; have aY := n1_; have HB := n2_; clear n0_ n1_ n2_; have n_ := zA3 (blk_drew aA.out) (blk_drew aY.out) (below_drew1 HB.out); clear aA aY HB; obtain ⟨aA, aY, HB⟩ := n_; have p105 : 0 ≤ ((bO) : Int) := of_decide_eq_true zz3; have q105 : (bO) < (aC.length : Int) := of_decide_eq_true zz3; obtain ⟨cH, e105, bF, b4⟩ := at_T57 bM.out (bO) p105 q105; have hw105_1 := b4; have hw105_0 := bF; obtain rfl : bD = cH := (by injection e105); replace bF := (HB.out.cell (World.block_lt_of_cell? w _ bF)).trans bF; replace b4 := (HB.out.cell (World.block_lt_of_cell? w _ b4)).trans b4; replace p105 := eq_true p105; replace q105 := eq_true q105; refine start_ (n := 38) (S := fun w' => w'.cell? ⟨aW, 0, none⟩ = some (.int .i64 ((rd_T57 aC aI).f0)) ∧ w'.cell? ⟨aW, 1, none⟩ = some (.int .i64 ((rd_T57 aC aI).f1)) ∧ w'.cell? ⟨aE, 0, none⟩ = some (.int .i64 aD) ∧ w'.cell? ⟨aE, 1, none⟩ = some (.slice (some bD) aC.length aG) ∧ w'.cell? (bD.add (((bO)).toNat * 2)) = some (.int .i64 ((rd_T57 aC (bO)).f0)) ∧ w'.cell? ⟨(bD.add (((bO)).toNat * 2)).block, (bD.add (((bO)).toNat * 2)).off + 1, none⟩ = some (.int .i64 ((rd_T57 aC (bO)).f1))) (ds := []) (zM 38 0) (by kernel_rfl) rfl rfl ⟨(blk_cell aY.out 0).trans rfl, (blk_cell aY.out 1).trans rfl, (blk_cell aA.out 0).trans rfl, (blk_cell aA.out 1).trans rfl, ((HB.out.cell (World.block_lt_of_cell? w _ hw105_0)).trans hw105_0), ((HB.out.cell (World.block_lt_of_cell? w _ hw105_1)).trans hw105_1)⟩ (fun hHeld => ?_); refine with_tabW spec_GraphOk.tab6 spec_GraphOk.bits6 (fun HT_ HW_ => ?_); generalize w19.drew = w20 at aA aY HB bF b4 hHeld ⊢; refine zQ 0 16 (zM 38 1) ?_
    refine zQ 1 17 (zM 38 3) ?_
    refine zQ 2 18 (zM 38 7) ?_
    refine zQ 3 19 (zM 38 15) ?_
    refine zQ 5 21 (zM 38 47) ?_
    refine zQ 7 23 (zM 38 175) ?_
    refine zQ 8 24 (zM 38 431) ?_
    refine take_ (i := 4) (N := some 20) (v := ?_) (a' := ?_) (zM 38 447) rfl rfl (take_ofW HT_.out HW_.out (by kernel_rfl)) (fun _ _ _ h => h) (Or.inl ⟨by rfl, ?_⟩) hHeld ?_ ?_; rotate_left
    ·rintro w' ⟨s0, s1, s2, s3, s4, s5⟩; exact zzT
    rotate_left
    ·exact zzS
    refine take_ (i := 6) (N := some 22) (v := ?_) (a' := ?_) (zM 38 511) rfl rfl (take_ofW HT_.out HW_.out (by kernel_rfl)) (fun _ _ _ h => h) (Or.inl ⟨by rfl, ?_⟩) hHeld ?_ ?_; rotate_left
    ·rintro w' ⟨s0, s1, s2, s3, s4, s5⟩; exact zzT
    rotate_left
    ·exact zzS
    refine zQ 9 25 (zM 38 1023) ?_
    refine zQ 10 26 (zM 38 2047) ?_
    refine take_ (i := 11) (N := some 27) (v := ?_) (a' := ?_) (zM 38 4095) rfl rfl (take_ofW HT_.out HW_.out (by kernel_rfl)) (fun _ _ _ h => h) (Or.inl ⟨by rfl, ?_⟩) hHeld ?_ ?_; rotate_left
    ·rintro w' ⟨s0, s1, s2, s3, s4, s5⟩; exact zzT
    rotate_left
    ·exact zzS
    refine zQ 12 28 (zM 38 8191) ?_
    refine zQ 13 29 (zM 38 16383) ?_
    refine zU 14 30 (zM 38 32767) rfl rfl HT_.out ?_ ?_ ?_; rotate_left
    ·exact zzS
    refine zU 15 31 (zM 38 65535) rfl rfl HT_.out ?_ ?_ ?_; rotate_left
    ·exact zzS
    refine zU 16 32 (zM 38 131071) rfl rfl HT_.out ?_ ?_ ?_; rotate_left
    ·exact zzS
    refine zU 17 33 (zM 38 262143) rfl rfl HT_.out ?_ ?_ ?_; rotate_left
    ·exact zzS
    refine zU 18 34 (zM 38 524287) rfl rfl HT_.out ?_ ?_ ?_; rotate_left
    ·exact zzS
    refine zU 19 35 (zM 38 1048575) rfl rfl HT_.out ?_ ?_ ?_; rotate_left
    ·exact zzS
    refine zU 20 36 (zM 38 2097151) rfl rfl HT_.out ?_ ?_ ?_; rotate_left
    ·exact zzS
    refine zU 21 37 (zM 38 4194303) rfl rfl HT_.out ?_ ?_ ?_; rotate_left
    ·exact zzS
    refine zU 22 38 (zM 38 8388607) rfl rfl HT_.out ?_ ?_ ?_; rotate_left
    ·exact zzS
    refine zU 23 39 (zM 38 16777215) rfl rfl HT_.out ?_ ?_ ?_; rotate_left
    ·exact zzS
    refine zU 24 40 (zM 38 33554431) rfl rfl HT_.out ?_ ?_ ?_; rotate_left
    ·exact zzS
    refine zU 25 41 (zM 38 67108863) rfl rfl HT_.out ?_ ?_ ?_; rotate_left
    ·exact zzS
    refine zU 26 42 (zM 38 134217727) rfl rfl HT_.out ?_ ?_ ?_; rotate_left
    ·exact zzS
    refine zU 27 43 (zM 38 268435455) rfl rfl HT_.out ?_ ?_ ?_; rotate_left
    ·exact zzS
    refine zU 28 44 (zM 38 536870911) rfl rfl HT_.out ?_ ?_ ?_; rotate_left
    ·exact zzS
    refine zU 29 45 (zM 38 1073741823) rfl rfl HT_.out ?_ ?_ ?_; rotate_left
    ·exact zzS
    refine zU 30 46 (zM 38 2147483647) rfl rfl HT_.out ?_ ?_ ?_; rotate_left
    ·exact zzS
    refine zU 31 47 (zM 38 4294967295) rfl rfl HT_.out ?_ ?_ ?_; rotate_left
    ·exact zzS
    refine zU 32 48 (zM 38 8589934591) rfl rfl HT_.out ?_ ?_ ?_; rotate_left
    ·exact zzS
    refine zU 33 49 (zM 38 17179869183) rfl rfl HT_.out ?_ ?_ ?_; rotate_left
    ·exact zzS
    refine zU 34 50 (zM 38 34359738367) rfl rfl HT_.out ?_ ?_ ?_; rotate_left
    ·exact zzS
    refine zU 35 51 (zM 38 68719476735) rfl rfl HT_.out ?_ ?_ ?_; rotate_left
    ·exact zzS
    refine zQ 36 52 (zM 38 137438953471) ?_
    refine zQ 37 53 (zM 38 274877906943) ?_
    refine done_ (done_of HT_.out (by kernel_rfl)) ?_; (try go_wp2); go_ret; exact ⟨by first | rfl | (simp [errW_none, errW_some] <;> rfl) | (simp only [← iU]; first | rfl | (simp [errW_none, errW_some] <;> rfl)) | (simp [*, errW_none, errW_some] <;> rfl), zz11⟩
   rw [if_neg c15] at H; have iF := decide_eq_false c15; clear c15; by_cases c21 : ((rd_T57 aC aI).f0) = ((rd_T57 aC (bO)).f0); rotate_left
   ·rw [if_neg c21] at H; have iV : (((rd_T57 aC aI).f0) == ((rd_T57 aC (bO)).f0)) = false := beq_eq_false_iff_ne.mpr c21; have qX : (((rd_T57 aC aI).f0) != ((rd_T57 aC (bO)).f0)) = true := bne_iff_ne.mpr c21; have H' := zK_ H; clear H; have p103 : 0 ≤ (aI : Int) := of_decide_eq_true zz3; have q103 : aI < (aC.length : Int) := of_decide_eq_true zz3; obtain ⟨bD, e103, aQ, a6⟩ := at_T57 bM.out aI p103 q103; cases e103; replace aQ := (HB.out.cell (World.block_lt_of_cell? w _ aQ)).trans aQ; replace a6 := (HB.out.cell (World.block_lt_of_cell? w _ a6)).trans a6; replace p103 := eq_true p103; replace q103 := eq_true q103; (try go_wp2_with (first | ((with_reducible refine gate_dst (N := 4) rfl ?_); refine box_event ?hg (N := 4) ?hd (cs := #[.int .i64 0, .int .i64 0]) (t := 57) ?hr ?_; (case hd => rfl); (case hg => rfl); (case hr => exact zz9); intro aW hg w33 hbox hb; have n_ := zA7 (blk_below (g := aE) (o := .cells #[.int .i64 aD, .slice (some bD) aC.length aG] 25 (0, 0)) zz2 hb) (below_step zz0 hb) hbox (zz13 : w.heap.size ≤ aW) (zz13 : w.heap.size ≤ aW) (zz16 : aE ≠ aW) (zz17 : aW ≠ aE); clear aA HB; obtain ⟨aA, HB, aY, GW104, GE104, bH, bI⟩ := n_; clear hb hbox hg; have z8 := bI.out; have zC := bH.out; have jE := zC20 aY; have jD := zC21 aY; have i6 := blk_frozen aY.out 0; have i5 := blk_frozen aY.out 1))); have n0_ : Aside0 (((w33.setCell ⟨aW, 0, none⟩ (.int .i64 ((rd_T57 aC aI).f0))).setCell ⟨aW, 1, none⟩ (.int .i64 ((rd_T57 aC aI).f1))).heap[aE]? = some (.cells #[.int .i64 aD, .slice (some bD) aC.length aG] 25 (0, 0))) := ⟨zz12⟩; have n1_ : Aside0 (((w33.setCell ⟨aW, 0, none⟩ (.int .i64 ((rd_T57 aC aI).f0))).setCell ⟨aW, 1, none⟩ (.int .i64 ((rd_T57 aC aI).f1))).heap[aW]? = some (.cells #[.int .i64 ((rd_T57 aC aI).f0), .int .i64 ((rd_T57 aC aI).f1)] 57 (0, 0))) := ⟨zz18⟩; have n2_ : Aside0 (Below w.heap.size w ((w33.setCell ⟨aW, 0, none⟩ (.int .i64 ((rd_T57 aC aI).f0))).setCell ⟨aW, 1, none⟩ (.int .i64 ((rd_T57 aC aI).f1)))) := ⟨zz11⟩; (try clear aA); (try clear aY); (try clear HB); generalize ((w33.setCell ⟨aW, 0, none⟩ (.int .i64 ((rd_T57 aC aI).f0))).setCell ⟨aW, 1, none⟩ (.int .i64 ((rd_T57 aC aI).f1))) = w36 at n0_ n1_ n2_ ⊢; have aA := n0_; have aY := n1_; have HB := n2_; clear n0_ n1_ n2_; have n_ := zA3 (blk_drew aA.out) (blk_drew aY.out) (below_drew1 HB.out); clear aA aY HB; obtain ⟨aA, aY, HB⟩ := n_; have p105 : 0 ≤ ((bO) : Int) := of_decide_eq_true zz3; have q105 : (bO) < (aC.length : Int) := of_decide_eq_true zz3; obtain ⟨cH, e105, bF, b4⟩ := at_T57 bM.out (bO) p105 q105; have hw105_1 := b4; have hw105_0 := bF; obtain rfl : bD = cH := (by injection e105); replace bF := (HB.out.cell (World.block_lt_of_cell? w _ bF)).trans bF; replace b4 := (HB.out.cell (World.block_lt_of_cell? w _ b4)).trans b4; replace p105 := eq_true p105; replace q105 := eq_true q105; have p106 : 0 ≤ ((bO) : Int) := of_decide_eq_true zz3; have q106 : (bO) < (aC.length : Int) := of_decide_eq_true zz3; obtain ⟨mN, e106, dJ, dI⟩ := at_T57 bM.out (bO) p106 q106; have hw106_1 := dI; have hw106_0 := dJ; obtain rfl : bD = mN := (by injection e106); replace dJ := (HB.out.cell (World.block_lt_of_cell? w _ dJ)).trans dJ; replace dI := (HB.out.cell (World.block_lt_of_cell? w _ dI)).trans dI; replace p106 := eq_true p106; replace q106 := eq_true q106; refine start_ (n := 38) (S := fun w' => w'.cell? ⟨aW, 0, none⟩ = some (.int .i64 ((rd_T57 aC aI).f0)) ∧ w'.cell? ⟨aW, 1, none⟩ = some (.int .i64 ((rd_T57 aC aI).f1)) ∧ w'.cell? ⟨aE, 0, none⟩ = some (.int .i64 aD) ∧ w'.cell? ⟨aE, 1, none⟩ = some (.slice (some bD) aC.length aG) ∧ w'.cell? (bD.add (((bO)).toNat * 2)) = some (.int .i64 ((rd_T57 aC (bO)).f0)) ∧ w'.cell? ⟨(bD.add (((bO)).toNat * 2)).block, (bD.add (((bO)).toNat * 2)).off + 1, none⟩ = some (.int .i64 ((rd_T57 aC (bO)).f1)) ∧ w'.cell? (bD.add (((bO)).toNat * 2)) = some (.int .i64 ((rd_T57 aC (bO)).f0)) ∧ w'.cell? ⟨(bD.add (((bO)).toNat * 2)).block, (bD.add (((bO)).toNat * 2)).off + 1, none⟩ = some (.int .i64 ((rd_T57 aC (bO)).f1))) (ds := []) (zM 38 0) (by kernel_rfl) rfl rfl ⟨(blk_cell aY.out 0).trans rfl, (blk_cell aY.out 1).trans rfl, (blk_cell aA.out 0).trans rfl, (blk_cell aA.out 1).trans rfl, ((HB.out.cell (World.block_lt_of_cell? w _ hw105_0)).trans hw105_0), ((HB.out.cell (World.block_lt_of_cell? w _ hw105_1)).trans hw105_1), ((HB.out.cell (World.block_lt_of_cell? w _ hw106_0)).trans hw106_0), ((HB.out.cell (World.block_lt_of_cell? w _ hw106_1)).trans hw106_1)⟩ (fun hHeld => ?_); refine with_tabW spec_GraphOk.tab6 spec_GraphOk.bits6 (fun HT_ HW_ => ?_); generalize w36.drew = w37 at aA aY HB bF b4 dJ dI hHeld ⊢; refine zQ 0 16 (zM 38 1) ?_
    refine zQ 1 17 (zM 38 3) ?_
    refine zQ 2 18 (zM 38 7) ?_
    refine zQ 3 19 (zM 38 15) ?_
    refine zQ 5 21 (zM 38 47) ?_
    refine zQ 7 23 (zM 38 175) ?_
    refine zQ 8 24 (zM 38 431) ?_
    refine take_ (i := 4) (N := some 20) (v := ?_) (a' := ?_) (zM 38 447) rfl rfl (take_ofW HT_.out HW_.out (by kernel_rfl)) (fun _ _ _ h => h) (Or.inl ⟨by rfl, ?_⟩) hHeld ?_ ?_; rotate_left
    ·rintro w' ⟨s0, s1, s2, s3, s4, s5, s6, s7⟩; exact zzT
    rotate_left
    ·exact zzS
    refine take_ (i := 6) (N := some 22) (v := ?_) (a' := ?_) (zM 38 511) rfl rfl (take_ofW HT_.out HW_.out (by kernel_rfl)) (fun _ _ _ h => h) (Or.inl ⟨by rfl, ?_⟩) hHeld ?_ ?_; rotate_left
    ·rintro w' ⟨s0, s1, s2, s3, s4, s5, s6, s7⟩; exact zzT
    rotate_left
    ·exact zzS
    refine zQ 9 25 (zM 38 1023) ?_
    refine zQ 10 26 (zM 38 2047) ?_
    refine take_ (i := 11) (N := some 27) (v := ?_) (a' := ?_) (zM 38 4095) rfl rfl (take_ofW HT_.out HW_.out (by kernel_rfl)) (fun _ _ _ h => h) (Or.inl ⟨by rfl, ?_⟩) hHeld ?_ ?_; rotate_left
    ·rintro w' ⟨s0, s1, s2, s3, s4, s5, s6, s7⟩; exact zzT
    rotate_left
    ·exact zzS
    refine zQ 12 28 (zM 38 8191) ?_
    refine zQ 13 29 (zM 38 16383) ?_
    refine zQ 14 30 (zM 38 32767) ?_
    refine zQ 16 32 (zM 38 98303) ?_
    refine zQ 18 34 (zM 38 360447) ?_
    refine zQ 19 35 (zM 38 884735) ?_
    refine take_ (i := 15) (N := some 31) (v := ?_) (a' := ?_) (zM 38 917503) rfl rfl (take_ofW HT_.out HW_.out (by kernel_rfl)) (fun _ _ _ h => h) (Or.inl ⟨by rfl, ?_⟩) hHeld ?_ ?_; rotate_left
    ·rintro w' ⟨s0, s1, s2, s3, s4, s5, s6, s7⟩; exact zzT
    rotate_left
    ·exact zzS
    refine take_ (i := 17) (N := some 33) (v := ?_) (a' := ?_) (zM 38 1048575) rfl rfl (take_ofW HT_.out HW_.out (by kernel_rfl)) (fun _ _ _ h => h) (Or.inl ⟨by rfl, ?_⟩) hHeld ?_ ?_; rotate_left
    ·rintro w' ⟨s0, s1, s2, s3, s4, s5, s6, s7⟩; exact zzT
    rotate_left
    ·exact zzS
    refine zQ 20 36 (zM 38 2097151) ?_
    refine zQ 21 37 (zM 38 4194303) ?_
    refine take_ (i := 22) (N := some 38) (v := ?_) (a' := ?_) (zM 38 8388607) rfl rfl (take_ofW HT_.out HW_.out (by kernel_rfl)) (fun _ _ _ h => h) (Or.inl ⟨by rfl, ?_⟩) hHeld ?_ ?_; rotate_left
    ·rintro w' ⟨s0, s1, s2, s3, s4, s5, s6, s7⟩; exact zzT
    rotate_left
    ·exact zzS
    refine zQ 23 39 (zM 38 16777215) ?_
    refine zQ 24 40 (zM 38 33554431) ?_
    refine zU 25 41 (zM 38 67108863) rfl rfl HT_.out ?_ ?_ ?_; rotate_left
    ·exact zzS
    refine zU 26 42 (zM 38 134217727) rfl rfl HT_.out ?_ ?_ ?_; rotate_left
    ·exact zzS
    refine zU 27 43 (zM 38 268435455) rfl rfl HT_.out ?_ ?_ ?_; rotate_left
    ·exact zzS
    refine zU 28 44 (zM 38 536870911) rfl rfl HT_.out ?_ ?_ ?_; rotate_left
    ·exact zzS
    refine zU 29 45 (zM 38 1073741823) rfl rfl HT_.out ?_ ?_ ?_; rotate_left
    ·exact zzS
    refine zU 30 46 (zM 38 2147483647) rfl rfl HT_.out ?_ ?_ ?_; rotate_left
    ·exact zzS
    refine zU 31 47 (zM 38 4294967295) rfl rfl HT_.out ?_ ?_ ?_; rotate_left
    ·exact zzS
    refine zU 32 48 (zM 38 8589934591) rfl rfl HT_.out ?_ ?_ ?_; rotate_left
    ·exact zzS
    refine zU 33 49 (zM 38 17179869183) rfl rfl HT_.out ?_ ?_ ?_; rotate_left
    ·exact zzS
    refine zU 34 50 (zM 38 34359738367) rfl rfl HT_.out ?_ ?_ ?_; rotate_left
    ·exact zzS
    refine zQ 35 51 (zM 38 68719476735) ?_
    refine zQ 36 52 (zM 38 137438953471) ?_
    refine zQ 37 53 (zM 38 274877906943) ?_
    refine done_ (done_of HT_.out (by kernel_rfl)) ?_; (try go_wp2); go_roundg k1; (case measure => have := HK1.out; omega); case rel => exact ⟨(wrap64 (aI + 1)), zz5, H', ⟨zz34⟩, ⟨zz2⟩, ⟨zz11⟩⟩
   rw [if_pos c21] at H; have iV : (((rd_T57 aC aI).f0) == ((rd_T57 aC (bO)).f0)) = true := beq_iff_eq.mpr c21; have qX : (((rd_T57 aC aI).f0) != ((rd_T57 aC (bO)).f0)) = false := bne_eq_false_iff_eq.mpr c21; clear c21; by_cases c22 : ((rd_T57 aC aI).f1) < ((rd_T57 aC (bO)).f1)
   ·rw [if_pos c22] at H; have kY := decide_eq_true c22; clear c22; obtain rfl := Option.some.inj H; have p103 : 0 ≤ (aI : Int) := of_decide_eq_true zz3; have q103 : aI < (aC.length : Int) := of_decide_eq_true zz3; obtain ⟨bD, e103, aQ, a6⟩ := at_T57 bM.out aI p103 q103; cases e103; replace aQ := (HB.out.cell (World.block_lt_of_cell? w _ aQ)).trans aQ; replace a6 := (HB.out.cell (World.block_lt_of_cell? w _ a6)).trans a6; replace p103 := eq_true p103; replace q103 := eq_true q103; (try go_wp2_with (first | ((with_reducible refine gate_dst (N := 4) rfl ?_); refine box_event ?hg (N := 4) ?hd (cs := #[.int .i64 0, .int .i64 0]) (t := 57) ?hr ?_; (case hd => rfl); (case hg => rfl); (case hr => exact zz9); intro aW hg w23 hbox hb; have n_ := zA7 (blk_below (g := aE) (o := .cells #[.int .i64 aD, .slice (some bD) aC.length aG] 25 (0, 0)) zz2 hb) (below_step zz0 hb) hbox (zz13 : w.heap.size ≤ aW) (zz13 : w.heap.size ≤ aW) (zz16 : aE ≠ aW) (zz17 : aW ≠ aE); clear aA HB; obtain ⟨aA, HB, aY, GW104, GE104, bH, bI⟩ := n_; clear hb hbox hg; have AI := bI.out; have zN := bH.out; have lP := zC20 aY; have lO := zC21 aY; have lH := blk_frozen aY.out 0; have lG := blk_frozen aY.out 1))); have n0_ : Aside0 (((w23.setCell ⟨aW, 0, none⟩ (.int .i64 ((rd_T57 aC aI).f0))).setCell ⟨aW, 1, none⟩ (.int .i64 ((rd_T57 aC aI).f1))).heap[aE]? = some (.cells #[.int .i64 aD, .slice (some bD) aC.length aG] 25 (0, 0))) := ⟨zz12⟩; have n1_ : Aside0 (((w23.setCell ⟨aW, 0, none⟩ (.int .i64 ((rd_T57 aC aI).f0))).setCell ⟨aW, 1, none⟩ (.int .i64 ((rd_T57 aC aI).f1))).heap[aW]? = some (.cells #[.int .i64 ((rd_T57 aC aI).f0), .int .i64 ((rd_T57 aC aI).f1)] 57 (0, 0))) := ⟨zz18⟩; have n2_ : Aside0 (Below w.heap.size w ((w23.setCell ⟨aW, 0, none⟩ (.int .i64 ((rd_T57 aC aI).f0))).setCell ⟨aW, 1, none⟩ (.int .i64 ((rd_T57 aC aI).f1)))) := ⟨zz11⟩; (try clear aA); (try clear aY); (try clear HB); generalize ((w23.setCell ⟨aW, 0, none⟩ (.int .i64 ((rd_T57 aC aI).f0))).setCell ⟨aW, 1, none⟩ (.int .i64 ((rd_T57 aC aI).f1))) = w26 at n0_ n1_ n2_ ⊢; have aA := n0_; have aY := n1_; have HB := n2_; clear n0_ n1_ n2_; have n_ := zA3 (blk_drew aA.out) (blk_drew aY.out) (below_drew1 HB.out); clear aA aY HB; obtain ⟨aA, aY, HB⟩ := n_; have p105 : 0 ≤ ((bO) : Int) := of_decide_eq_true zz3; have q105 : (bO) < (aC.length : Int) := of_decide_eq_true zz3; obtain ⟨cH, e105, bF, b4⟩ := at_T57 bM.out (bO) p105 q105; have hw105_1 := b4; have hw105_0 := bF; obtain rfl : bD = cH := (by injection e105); replace bF := (HB.out.cell (World.block_lt_of_cell? w _ bF)).trans bF; replace b4 := (HB.out.cell (World.block_lt_of_cell? w _ b4)).trans b4; replace p105 := eq_true p105; replace q105 := eq_true q105; have p106 : 0 ≤ ((bO) : Int) := of_decide_eq_true zz3; have q106 : (bO) < (aC.length : Int) := of_decide_eq_true zz3; obtain ⟨mN, e106, dJ, dI⟩ := at_T57 bM.out (bO) p106 q106; have hw106_1 := dI; have hw106_0 := dJ; obtain rfl : bD = mN := (by injection e106); replace dJ := (HB.out.cell (World.block_lt_of_cell? w _ dJ)).trans dJ; replace dI := (HB.out.cell (World.block_lt_of_cell? w _ dI)).trans dI; replace p106 := eq_true p106; replace q106 := eq_true q106; have p107 : 0 ≤ ((bO) : Int) := of_decide_eq_true zz3; have q107 : (bO) < (aC.length : Int) := of_decide_eq_true zz3; obtain ⟨jO, e107, cG, fG⟩ := at_T57 bM.out (bO) p107 q107; have hw107_1 := fG; have hw107_0 := cG; obtain rfl : bD = jO := (by injection e107); replace cG := (HB.out.cell (World.block_lt_of_cell? w _ cG)).trans cG; replace fG := (HB.out.cell (World.block_lt_of_cell? w _ fG)).trans fG; replace p107 := eq_true p107; replace q107 := eq_true q107; refine start_ (n := 38) (S := fun w' => w'.cell? ⟨aW, 0, none⟩ = some (.int .i64 ((rd_T57 aC aI).f0)) ∧ w'.cell? ⟨aW, 1, none⟩ = some (.int .i64 ((rd_T57 aC aI).f1)) ∧ w'.cell? ⟨aE, 0, none⟩ = some (.int .i64 aD) ∧ w'.cell? ⟨aE, 1, none⟩ = some (.slice (some bD) aC.length aG) ∧ w'.cell? (bD.add (((bO)).toNat * 2)) = some (.int .i64 ((rd_T57 aC (bO)).f0)) ∧ w'.cell? ⟨(bD.add (((bO)).toNat * 2)).block, (bD.add (((bO)).toNat * 2)).off + 1, none⟩ = some (.int .i64 ((rd_T57 aC (bO)).f1)) ∧ w'.cell? (bD.add (((bO)).toNat * 2)) = some (.int .i64 ((rd_T57 aC (bO)).f0)) ∧ w'.cell? ⟨(bD.add (((bO)).toNat * 2)).block, (bD.add (((bO)).toNat * 2)).off + 1, none⟩ = some (.int .i64 ((rd_T57 aC (bO)).f1)) ∧ w'.cell? (bD.add (((bO)).toNat * 2)) = some (.int .i64 ((rd_T57 aC (bO)).f0)) ∧ w'.cell? ⟨(bD.add (((bO)).toNat * 2)).block, (bD.add (((bO)).toNat * 2)).off + 1, none⟩ = some (.int .i64 ((rd_T57 aC (bO)).f1))) (ds := []) (zM 38 0) (by kernel_rfl) rfl rfl ⟨(blk_cell aY.out 0).trans rfl, (blk_cell aY.out 1).trans rfl, (blk_cell aA.out 0).trans rfl, (blk_cell aA.out 1).trans rfl, ((HB.out.cell (World.block_lt_of_cell? w _ hw105_0)).trans hw105_0), ((HB.out.cell (World.block_lt_of_cell? w _ hw105_1)).trans hw105_1), ((HB.out.cell (World.block_lt_of_cell? w _ hw106_0)).trans hw106_0), ((HB.out.cell (World.block_lt_of_cell? w _ hw106_1)).trans hw106_1), ((HB.out.cell (World.block_lt_of_cell? w _ hw107_0)).trans hw107_0), ((HB.out.cell (World.block_lt_of_cell? w _ hw107_1)).trans hw107_1)⟩ (fun hHeld => ?_); refine with_tabW spec_GraphOk.tab6 spec_GraphOk.bits6 (fun HT_ HW_ => ?_); generalize w26.drew = w27 at aA aY HB bF b4 dJ dI cG fG hHeld ⊢; refine zQ 0 16 (zM 38 1) ?_
    refine zQ 1 17 (zM 38 3) ?_
    refine zQ 2 18 (zM 38 7) ?_
    refine zQ 3 19 (zM 38 15) ?_
    refine zQ 5 21 (zM 38 47) ?_
    refine zQ 7 23 (zM 38 175) ?_
    refine zQ 8 24 (zM 38 431) ?_
    refine take_ (i := 4) (N := some 20) (v := ?_) (a' := ?_) (zM 38 447) rfl rfl (take_ofW HT_.out HW_.out (by kernel_rfl)) (fun _ _ _ h => h) (Or.inl ⟨by rfl, ?_⟩) hHeld ?_ ?_; rotate_left
    ·rintro w' ⟨s0, s1, s2, s3, s4, s5, s6, s7, s8, s9⟩; exact zzT
    rotate_left
    ·exact zzS
    refine take_ (i := 6) (N := some 22) (v := ?_) (a' := ?_) (zM 38 511) rfl rfl (take_ofW HT_.out HW_.out (by kernel_rfl)) (fun _ _ _ h => h) (Or.inl ⟨by rfl, ?_⟩) hHeld ?_ ?_; rotate_left
    ·rintro w' ⟨s0, s1, s2, s3, s4, s5, s6, s7, s8, s9⟩; exact zzT
    rotate_left
    ·exact zzS
    refine zQ 9 25 (zM 38 1023) ?_
    refine zQ 10 26 (zM 38 2047) ?_
    refine take_ (i := 11) (N := some 27) (v := ?_) (a' := ?_) (zM 38 4095) rfl rfl (take_ofW HT_.out HW_.out (by kernel_rfl)) (fun _ _ _ h => h) (Or.inl ⟨by rfl, ?_⟩) hHeld ?_ ?_; rotate_left
    ·rintro w' ⟨s0, s1, s2, s3, s4, s5, s6, s7, s8, s9⟩; exact zzT
    rotate_left
    ·exact zzS
    refine zQ 12 28 (zM 38 8191) ?_
    refine zQ 13 29 (zM 38 16383) ?_
    refine zQ 14 30 (zM 38 32767) ?_
    refine zQ 16 32 (zM 38 98303) ?_
    refine zQ 18 34 (zM 38 360447) ?_
    refine zQ 19 35 (zM 38 884735) ?_
    refine take_ (i := 15) (N := some 31) (v := ?_) (a' := ?_) (zM 38 917503) rfl rfl (take_ofW HT_.out HW_.out (by kernel_rfl)) (fun _ _ _ h => h) (Or.inl ⟨by rfl, ?_⟩) hHeld ?_ ?_; rotate_left
    ·rintro w' ⟨s0, s1, s2, s3, s4, s5, s6, s7, s8, s9⟩; exact zzT
    rotate_left
    ·exact zzS
    refine take_ (i := 17) (N := some 33) (v := ?_) (a' := ?_) (zM 38 1048575) rfl rfl (take_ofW HT_.out HW_.out (by kernel_rfl)) (fun _ _ _ h => h) (Or.inl ⟨by rfl, ?_⟩) hHeld ?_ ?_; rotate_left
    ·rintro w' ⟨s0, s1, s2, s3, s4, s5, s6, s7, s8, s9⟩; exact zzT
    rotate_left
    ·exact zzS
    refine zQ 20 36 (zM 38 2097151) ?_
    refine zQ 21 37 (zM 38 4194303) ?_
    refine take_ (i := 22) (N := some 38) (v := ?_) (a' := ?_) (zM 38 8388607) rfl rfl (take_ofW HT_.out HW_.out (by kernel_rfl)) (fun _ _ _ h => h) (Or.inl ⟨by rfl, ?_⟩) hHeld ?_ ?_; rotate_left
    ·rintro w' ⟨s0, s1, s2, s3, s4, s5, s6, s7, s8, s9⟩; exact zzT
    rotate_left
    ·exact zzS
    refine zQ 23 39 (zM 38 16777215) ?_
    refine zQ 24 40 (zM 38 33554431) ?_
    refine zQ 25 41 (zM 38 67108863) ?_
    refine zQ 27 43 (zM 38 201326591) ?_
    refine zQ 29 45 (zM 38 738197503) ?_
    refine zQ 30 46 (zM 38 1811939327) ?_
    refine take_ (i := 26) (N := some 42) (v := ?_) (a' := ?_) (zM 38 1879048191) rfl rfl (take_ofW HT_.out HW_.out (by kernel_rfl)) (fun _ _ _ h => h) (Or.inl ⟨by rfl, ?_⟩) hHeld ?_ ?_; rotate_left
    ·rintro w' ⟨s0, s1, s2, s3, s4, s5, s6, s7, s8, s9⟩; exact zzT
    rotate_left
    ·exact zzS
    refine take_ (i := 28) (N := some 44) (v := ?_) (a' := ?_) (zM 38 2147483647) rfl rfl (take_ofW HT_.out HW_.out (by kernel_rfl)) (fun _ _ _ h => h) (Or.inl ⟨by rfl, ?_⟩) hHeld ?_ ?_; rotate_left
    ·rintro w' ⟨s0, s1, s2, s3, s4, s5, s6, s7, s8, s9⟩; exact zzT
    rotate_left
    ·exact zzS
    refine zQ 31 47 (zM 38 4294967295) ?_
    refine zQ 32 48 (zM 38 8589934591) ?_
    refine take_ (i := 33) (N := some 49) (v := ?_) (a' := ?_) (zM 38 17179869183) rfl rfl (take_ofW HT_.out HW_.out (by kernel_rfl)) (fun _ _ _ h => h) (Or.inl ⟨by rfl, ?_⟩) hHeld ?_ ?_; rotate_left
    ·rintro w' ⟨s0, s1, s2, s3, s4, s5, s6, s7, s8, s9⟩; exact zzT
    rotate_left
    ·exact zzS
    refine zQ 34 50 (zM 38 34359738367) ?_
    refine zQ 35 51 (zM 38 68719476735) ?_
    refine zQ 36 52 (zM 38 137438953471) ?_
    refine zQ 37 53 (zM 38 274877906943) ?_
    refine done_ (done_of HT_.out (by kernel_rfl)) ?_; (try go_wp2); go_ret; exact ⟨by first | rfl | (simp [errW_none, errW_some] <;> rfl) | (simp only [← iU]; first | rfl | (simp [errW_none, errW_some] <;> rfl)) | (simp [*, errW_none, errW_some] <;> rfl), zz11⟩
   rw [if_neg c22] at H; have kY := decide_eq_false c22; clear c22; have H' := zK_ H; clear H; have p103 : 0 ≤ (aI : Int) := of_decide_eq_true zz3; have q103 : aI < (aC.length : Int) := of_decide_eq_true zz3; obtain ⟨bD, e103, aQ, a6⟩ := at_T57 bM.out aI p103 q103; cases e103; replace aQ := (HB.out.cell (World.block_lt_of_cell? w _ aQ)).trans aQ; replace a6 := (HB.out.cell (World.block_lt_of_cell? w _ a6)).trans a6; replace p103 := eq_true p103; replace q103 := eq_true q103; (try go_wp2_with (first | ((with_reducible refine gate_dst (N := 4) rfl ?_); refine box_event ?hg (N := 4) ?hd (cs := #[.int .i64 0, .int .i64 0]) (t := 57) ?hr ?_; (case hd => rfl); (case hg => rfl); (case hr => exact zz9); intro aW hg w28 hbox hb; have n_ := zA7 (blk_below (g := aE) (o := .cells #[.int .i64 aD, .slice (some bD) aC.length aG] 25 (0, 0)) zz2 hb) (below_step zz0 hb) hbox (zz13 : w.heap.size ≤ aW) (zz13 : w.heap.size ≤ aW) (zz16 : aE ≠ aW) (zz17 : aW ≠ aE); clear aA HB; obtain ⟨aA, HB, aY, GW104, GE104, bH, bI⟩ := n_; clear hb hbox hg; have AD := bI.out; have zG := bH.out; have vY := zC20 aY; have vW := zC21 aY; have uU := blk_frozen aY.out 0; have uT := blk_frozen aY.out 1))); have n0_ : Aside0 (((w28.setCell ⟨aW, 0, none⟩ (.int .i64 ((rd_T57 aC aI).f0))).setCell ⟨aW, 1, none⟩ (.int .i64 ((rd_T57 aC aI).f1))).heap[aE]? = some (.cells #[.int .i64 aD, .slice (some bD) aC.length aG] 25 (0, 0))) := ⟨zz12⟩; have n1_ : Aside0 (((w28.setCell ⟨aW, 0, none⟩ (.int .i64 ((rd_T57 aC aI).f0))).setCell ⟨aW, 1, none⟩ (.int .i64 ((rd_T57 aC aI).f1))).heap[aW]? = some (.cells #[.int .i64 ((rd_T57 aC aI).f0), .int .i64 ((rd_T57 aC aI).f1)] 57 (0, 0))) := ⟨zz18⟩; have n2_ : Aside0 (Below w.heap.size w ((w28.setCell ⟨aW, 0, none⟩ (.int .i64 ((rd_T57 aC aI).f0))).setCell ⟨aW, 1, none⟩ (.int .i64 ((rd_T57 aC aI).f1)))) := ⟨zz11⟩; (try clear aA); (try clear aY); (try clear HB); generalize ((w28.setCell ⟨aW, 0, none⟩ (.int .i64 ((rd_T57 aC aI).f0))).setCell ⟨aW, 1, none⟩ (.int .i64 ((rd_T57 aC aI).f1))) = w31 at n0_ n1_ n2_ ⊢; have aA := n0_; have aY := n1_; have HB := n2_; clear n0_ n1_ n2_; have n_ := zA3 (blk_drew aA.out) (blk_drew aY.out) (below_drew1 HB.out); clear aA aY HB; obtain ⟨aA, aY, HB⟩ := n_; have p105 : 0 ≤ ((bO) : Int) := of_decide_eq_true zz3; have q105 : (bO) < (aC.length : Int) := of_decide_eq_true zz3; obtain ⟨cH, e105, bF, b4⟩ := at_T57 bM.out (bO) p105 q105; have hw105_1 := b4; have hw105_0 := bF; obtain rfl : bD = cH := (by injection e105); replace bF := (HB.out.cell (World.block_lt_of_cell? w _ bF)).trans bF; replace b4 := (HB.out.cell (World.block_lt_of_cell? w _ b4)).trans b4; replace p105 := eq_true p105; replace q105 := eq_true q105; have p106 : 0 ≤ ((bO) : Int) := of_decide_eq_true zz3; have q106 : (bO) < (aC.length : Int) := of_decide_eq_true zz3; obtain ⟨mN, e106, dJ, dI⟩ := at_T57 bM.out (bO) p106 q106; have hw106_1 := dI; have hw106_0 := dJ; obtain rfl : bD = mN := (by injection e106); replace dJ := (HB.out.cell (World.block_lt_of_cell? w _ dJ)).trans dJ; replace dI := (HB.out.cell (World.block_lt_of_cell? w _ dI)).trans dI; replace p106 := eq_true p106; replace q106 := eq_true q106; have p107 : 0 ≤ ((bO) : Int) := of_decide_eq_true zz3; have q107 : (bO) < (aC.length : Int) := of_decide_eq_true zz3; obtain ⟨jO, e107, cG, fG⟩ := at_T57 bM.out (bO) p107 q107; have hw107_1 := fG; have hw107_0 := cG; obtain rfl : bD = jO := (by injection e107); replace cG := (HB.out.cell (World.block_lt_of_cell? w _ cG)).trans cG; replace fG := (HB.out.cell (World.block_lt_of_cell? w _ fG)).trans fG; replace p107 := eq_true p107; replace q107 := eq_true q107; refine start_ (n := 38) (S := fun w' => w'.cell? ⟨aW, 0, none⟩ = some (.int .i64 ((rd_T57 aC aI).f0)) ∧ w'.cell? ⟨aW, 1, none⟩ = some (.int .i64 ((rd_T57 aC aI).f1)) ∧ w'.cell? ⟨aE, 0, none⟩ = some (.int .i64 aD) ∧ w'.cell? ⟨aE, 1, none⟩ = some (.slice (some bD) aC.length aG) ∧ w'.cell? (bD.add (((bO)).toNat * 2)) = some (.int .i64 ((rd_T57 aC (bO)).f0)) ∧ w'.cell? ⟨(bD.add (((bO)).toNat * 2)).block, (bD.add (((bO)).toNat * 2)).off + 1, none⟩ = some (.int .i64 ((rd_T57 aC (bO)).f1)) ∧ w'.cell? (bD.add (((bO)).toNat * 2)) = some (.int .i64 ((rd_T57 aC (bO)).f0)) ∧ w'.cell? ⟨(bD.add (((bO)).toNat * 2)).block, (bD.add (((bO)).toNat * 2)).off + 1, none⟩ = some (.int .i64 ((rd_T57 aC (bO)).f1)) ∧ w'.cell? (bD.add (((bO)).toNat * 2)) = some (.int .i64 ((rd_T57 aC (bO)).f0)) ∧ w'.cell? ⟨(bD.add (((bO)).toNat * 2)).block, (bD.add (((bO)).toNat * 2)).off + 1, none⟩ = some (.int .i64 ((rd_T57 aC (bO)).f1))) (ds := []) (zM 38 0) (by kernel_rfl) rfl rfl ⟨(blk_cell aY.out 0).trans rfl, (blk_cell aY.out 1).trans rfl, (blk_cell aA.out 0).trans rfl, (blk_cell aA.out 1).trans rfl, ((HB.out.cell (World.block_lt_of_cell? w _ hw105_0)).trans hw105_0), ((HB.out.cell (World.block_lt_of_cell? w _ hw105_1)).trans hw105_1), ((HB.out.cell (World.block_lt_of_cell? w _ hw106_0)).trans hw106_0), ((HB.out.cell (World.block_lt_of_cell? w _ hw106_1)).trans hw106_1), ((HB.out.cell (World.block_lt_of_cell? w _ hw107_0)).trans hw107_0), ((HB.out.cell (World.block_lt_of_cell? w _ hw107_1)).trans hw107_1)⟩ (fun hHeld => ?_); refine with_tabW spec_GraphOk.tab6 spec_GraphOk.bits6 (fun HT_ HW_ => ?_); generalize w31.drew = w32 at aA aY HB bF b4 dJ dI cG fG hHeld ⊢; refine zQ 0 16 (zM 38 1) ?_
   refine zQ 1 17 (zM 38 3) ?_
   refine zQ 2 18 (zM 38 7) ?_
   refine zQ 3 19 (zM 38 15) ?_
   refine zQ 5 21 (zM 38 47) ?_
   refine zQ 7 23 (zM 38 175) ?_
   refine zQ 8 24 (zM 38 431) ?_
   refine take_ (i := 4) (N := some 20) (v := ?_) (a' := ?_) (zM 38 447) rfl rfl (take_ofW HT_.out HW_.out (by kernel_rfl)) (fun _ _ _ h => h) (Or.inl ⟨by rfl, ?_⟩) hHeld ?_ ?_; rotate_left
   ·rintro w' ⟨s0, s1, s2, s3, s4, s5, s6, s7, s8, s9⟩; exact zzT
   rotate_left
   ·exact zzS
   refine take_ (i := 6) (N := some 22) (v := ?_) (a' := ?_) (zM 38 511) rfl rfl (take_ofW HT_.out HW_.out (by kernel_rfl)) (fun _ _ _ h => h) (Or.inl ⟨by rfl, ?_⟩) hHeld ?_ ?_; rotate_left
   ·rintro w' ⟨s0, s1, s2, s3, s4, s5, s6, s7, s8, s9⟩; exact zzT
   rotate_left
   ·exact zzS
   refine zQ 9 25 (zM 38 1023) ?_
   refine zQ 10 26 (zM 38 2047) ?_
   refine take_ (i := 11) (N := some 27) (v := ?_) (a' := ?_) (zM 38 4095) rfl rfl (take_ofW HT_.out HW_.out (by kernel_rfl)) (fun _ _ _ h => h) (Or.inl ⟨by rfl, ?_⟩) hHeld ?_ ?_; rotate_left
   ·rintro w' ⟨s0, s1, s2, s3, s4, s5, s6, s7, s8, s9⟩; exact zzT
   rotate_left
   ·exact zzS
   refine zQ 12 28 (zM 38 8191) ?_
   refine zQ 13 29 (zM 38 16383) ?_
   refine zQ 14 30 (zM 38 32767) ?_
   refine zQ 16 32 (zM 38 98303) ?_
   refine zQ 18 34 (zM 38 360447) ?_
   refine zQ 19 35 (zM 38 884735) ?_
   refine take_ (i := 15) (N := some 31) (v := ?_) (a' := ?_) (zM 38 917503) rfl rfl (take_ofW HT_.out HW_.out (by kernel_rfl)) (fun _ _ _ h => h) (Or.inl ⟨by rfl, ?_⟩) hHeld ?_ ?_; rotate_left
   ·rintro w' ⟨s0, s1, s2, s3, s4, s5, s6, s7, s8, s9⟩; exact zzT
   rotate_left
   ·exact zzS
   refine take_ (i := 17) (N := some 33) (v := ?_) (a' := ?_) (zM 38 1048575) rfl rfl (take_ofW HT_.out HW_.out (by kernel_rfl)) (fun _ _ _ h => h) (Or.inl ⟨by rfl, ?_⟩) hHeld ?_ ?_; rotate_left
   ·rintro w' ⟨s0, s1, s2, s3, s4, s5, s6, s7, s8, s9⟩; exact zzT
   rotate_left
   ·exact zzS
   refine zQ 20 36 (zM 38 2097151) ?_
   refine zQ 21 37 (zM 38 4194303) ?_
   refine take_ (i := 22) (N := some 38) (v := ?_) (a' := ?_) (zM 38 8388607) rfl rfl (take_ofW HT_.out HW_.out (by kernel_rfl)) (fun _ _ _ h => h) (Or.inl ⟨by rfl, ?_⟩) hHeld ?_ ?_; rotate_left
   ·rintro w' ⟨s0, s1, s2, s3, s4, s5, s6, s7, s8, s9⟩; exact zzT
   rotate_left
   ·exact zzS
   refine zQ 23 39 (zM 38 16777215) ?_
   refine zQ 24 40 (zM 38 33554431) ?_
   refine zQ 25 41 (zM 38 67108863) ?_
   refine zQ 27 43 (zM 38 201326591) ?_
   refine zQ 29 45 (zM 38 738197503) ?_
   refine zQ 30 46 (zM 38 1811939327) ?_
   refine take_ (i := 26) (N := some 42) (v := ?_) (a' := ?_) (zM 38 1879048191) rfl rfl (take_ofW HT_.out HW_.out (by kernel_rfl)) (fun _ _ _ h => h) (Or.inl ⟨by rfl, ?_⟩) hHeld ?_ ?_; rotate_left
   ·rintro w' ⟨s0, s1, s2, s3, s4, s5, s6, s7, s8, s9⟩; exact zzT
   rotate_left
   ·exact zzS
   refine take_ (i := 28) (N := some 44) (v := ?_) (a' := ?_) (zM 38 2147483647) rfl rfl (take_ofW HT_.out HW_.out (by kernel_rfl)) (fun _ _ _ h => h) (Or.inl ⟨by rfl, ?_⟩) hHeld ?_ ?_; rotate_left
   ·rintro w' ⟨s0, s1, s2, s3, s4, s5, s6, s7, s8, s9⟩; exact zzT
   rotate_left
   ·exact zzS
   refine zQ 31 47 (zM 38 4294967295) ?_
   refine zQ 32 48 (zM 38 8589934591) ?_
   refine take_ (i := 33) (N := some 49) (v := ?_) (a' := ?_) (zM 38 17179869183) rfl rfl (take_ofW HT_.out HW_.out (by kernel_rfl)) (fun _ _ _ h => h) (Or.inl ⟨by rfl, ?_⟩) hHeld ?_ ?_; rotate_left
   ·rintro w' ⟨s0, s1, s2, s3, s4, s5, s6, s7, s8, s9⟩; exact zzT
   rotate_left
   ·exact zzS
   refine zQ 34 50 (zM 38 34359738367) ?_
   refine zQ 35 51 (zM 38 68719476735) ?_
   refine zQ 36 52 (zM 38 137438953471) ?_
   refine zQ 37 53 (zM 38 274877906943) ?_
   refine done_ (done_of HT_.out (by kernel_rfl)) ?_; (try go_wp2); go_roundg k1; (case measure => have := HK1.out; omega); case rel => exact ⟨(wrap64 (aI + 1)), zz5, H', ⟨zz34⟩, ⟨zz2⟩, ⟨zz11⟩⟩
mutual
def spec_MatrixOk.l0 : Nat → List (List Int) → List (List Int) → Int → Int → Option (Bool)
 | 0, _, _, _, _ => none
 | k + 1, x0, fE, eH, jV => if jV < eH then (if 0 ≤ jV then (if jV < (fE.length : Int) then (if ((rd_L3 fE jV).length : Int) = (x0.length : Int) then (spec_MatrixOk.l1 k x0 fE eH jV (rd_L3 fE jV) ((rd_L3 fE jV).length : Int) 0) else (some false)) else (none)) else (none)) else (some true)
def spec_MatrixOk.l1 : Nat → List (List Int) → List (List Int) → Int → Int → List Int → Int → Int → Option (Bool)
 | 0, _, _, _, _, _, _, _ => none
 | k + 1, x0, fE, eH, jV, kO, pW, pZ => if pZ < pW then (if 0 ≤ pZ then (if pZ < (kO.length : Int) then ((spec_l01In.f (rd kO pZ) (-500) 500).bind fun bL => (if bL = true then (spec_MatrixOk.l1 k x0 fE eH jV kO pW (wrap64 (pZ + 1))) else (some false))) else (none)) else (none)) else (spec_MatrixOk.l0 k x0 fE eH (wrap64 (jV + 1)))
end
def spec_MatrixOk.f (k : Nat) (l0 : List (List Int)) : Option (Bool) := if (l0.length : Int) > 6 then (some false) else (spec_MatrixOk.l0 k l0 l0 (l0.length : Int) 0)
theorem spec_MatrixOk.mono_l : ∀ k, (∀ y0 y1 y2 y3, LeO (spec_MatrixOk.l0 k y0 y1 y2 y3) (spec_MatrixOk.l0 (k + 1) y0 y1 y2 y3)) ∧ (∀ y0 y1 y2 y3 y4 y5 y6, LeO (spec_MatrixOk.l1 k y0 y1 y2 y3 y4 y5 y6) (spec_MatrixOk.l1 (k + 1) y0 y1 y2 y3 y4 y5 y6))
 | 0 => ⟨fun _ _ _ _ r h => by simp [spec_MatrixOk.l0] at h, fun _ _ _ _ _ _ _ r h => by simp [spec_MatrixOk.l1] at h⟩
 | k + 1 => by
  obtain ⟨ih0, ih1⟩ := spec_MatrixOk.mono_l k
  refine ⟨?_, ?_⟩
  ·intro y0 y1 y2 y3
   unfold spec_MatrixOk.l0
   exact zm1
  ·intro y0 y1 y2 y3 y4 y5 y6
   unfold spec_MatrixOk.l1
   exact zm1
theorem spec_MatrixOk.mono : ∀ a0 k, LeO (spec_MatrixOk.f k a0) (spec_MatrixOk.f (k + 1) a0) := by
 intro a0 k; obtain ⟨ih0, ih1⟩ := spec_MatrixOk.mono_l k; unfold spec_MatrixOk.f; exact zm1
theorem spec_MatrixOk.calls (k : Nat) (A0 : Option Addr) (c0 : Nat) (l0 : List (List Int)) (r : Bool) (w : World) (hr0 : Kd.C (Kd.slice 3 (Kd.int .i64)) w A0 l0.length l0) (hc0 : l0.length ≤ c0) (h : spec_MatrixOk.f k l0 = some r) :
  Calls Try.prog 134 #[.slice A0 l0.length c0] w fun e w' => e = .returned (.bool r) ∧ Drawn0 w w' := by
 have HR0 := zK_ hr0; have HC0 := zK_ hc0; clear hr0 hc0; have H : (if (l0.length : Int) > 6 then (some false) else (spec_MatrixOk.l0 k l0 l0 (l0.length : Int) 0)) = some r := h; clear h; by_cases c2 : (l0.length : Int) > 6
 ·rw [if_pos c2] at H; have jT : decide (6 < (l0.length : Int)) = true := decide_eq_true c2; have lU : decide (6 < l0.length) = true := decide_eq_true (by omega); clear c2; obtain rfl := Option.some.inj H; go_enter Try.func134, Try.ntmps134; go_wp2; go_ret; exact ⟨zz5, by repeat (first | exact Drawn0.refl _ | apply Drawn0.step)⟩
 rw [if_neg c2] at H; have jT : decide (6 < (l0.length : Int)) = false := decide_eq_false c2; have lU : decide (6 < l0.length) = false := decide_eq_false (by omega); clear c2; have H' := zK_ H; clear H; go_enter Try.func134, Try.ntmps134; go_wp2; (go_loopg [12] k (fun kq v12 w' => ∃ (dD : Int), v12 = .int .i64 dD ∧ Aside0 (spec_MatrixOk.l0 kq l0 l0 (l0.length : Int) dD = some r) ∧ Aside0 (kq ≤ k) ∧ Drawn0 w w')); case atStart => exact ⟨(0), zz5, H', ⟨Nat.le_refl _⟩, by repeat (first | exact Drawn0.refl _ | apply Drawn0.step)⟩
 case round =>
  clear H'; (try clear c1); (try clear c2); (try clear jT); (try clear lU); (try clear p2); obtain ⟨dD, rfl, HA, HK1, ⟨m1, rfl⟩⟩ := hrel
  cases gk with
  | zero => exact absurd HA.out (by simp [spec_MatrixOk.l0])
  | succ k1 =>
   have H := HA.out; clear HA; simp only [spec_MatrixOk.l0] at H; by_cases c3 : dD < (l0.length : Int); rotate_left
   ·rw [if_neg c3] at H; have dB := decide_eq_false c3; (try (have fD := dB; first | rw [bJ] at fD | rw [← bJ] at fD)); clear c3; obtain rfl := Option.some.inj H; go_wp2; go_ret; exact ⟨zz5, by repeat (first | exact Drawn0.refl _ | apply Drawn0.step)⟩
   rw [if_pos c3] at H; have dB := decide_eq_true c3; clear c3; by_cases c4 : 0 ≤ dD; rotate_left
   ·rw [if_neg c4] at H; exact absurd H (by simp)
   rw [if_pos c4] at H; have cY := decide_eq_true c4; clear c4; by_cases c5 : dD < (l0.length : Int); rotate_left
   ·rw [if_neg c5] at H; exact absurd H (by simp)
   rw [if_pos c5] at H; have dF := decide_eq_true c5; clear c5; by_cases c6 : ((rd_L3 l0 dD).length : Int) = (l0.length : Int); rotate_left
   ·rw [if_neg c6] at H; have eN : (((rd_L3 l0 dD).length : Int) == (l0.length : Int)) = false := beq_eq_false_iff_ne.mpr c6; have kS : (((rd_L3 l0 dD).length : Int) != (l0.length : Int)) = true := bne_iff_ne.mpr c6; (have qO : ((rd_L3 l0 dD).length == l0.length) = false := by first | simpa using c6 | (simp at c6 ⊢; omega)); obtain rfl := Option.some.inj H; have p101 : 0 ≤ (dD : Int) := of_decide_eq_true zz3; have q101 : dD < (l0.length : Int) := of_decide_eq_true zz3; obtain ⟨cF, A101_0, c101_0, e101, a8, bJ, hi101_0⟩ := at_L3 HR0.out dD p101 q101; cases e101; have HR101_0 := zK_ hi101_0; have HC101_0 := zK_ bJ; clear hi101_0 bJ; replace p101 := eq_true p101; replace q101 := eq_true q101; go_wp2; go_ret; exact ⟨zz5, by repeat (first | exact Drawn0.refl _ | apply Drawn0.step)⟩
   rw [if_pos c6] at H; have eN : (((rd_L3 l0 dD).length : Int) == (l0.length : Int)) = true := beq_iff_eq.mpr c6; have kS : (((rd_L3 l0 dD).length : Int) != (l0.length : Int)) = false := bne_eq_false_iff_eq.mpr c6; (have qO : ((rd_L3 l0 dD).length == l0.length) = true := by first | simpa using c6 | (simp at c6 ⊢; omega)); clear c6; have H' := zK_ H; clear H; have p101 : 0 ≤ (dD : Int) := of_decide_eq_true zz3; have q101 : dD < (l0.length : Int) := of_decide_eq_true zz3; obtain ⟨cF, A101_0, c101_0, e101, a8, bJ, hi101_0⟩ := at_L3 HR0.out dD p101 q101; cases e101; have HR101_0 := zK_ hi101_0; have HC101_0 := zK_ bJ; clear hi101_0 bJ; replace p101 := eq_true p101; replace q101 := eq_true q101; go_wp2; (go_loopg [23] k1 (fun kq v23 w' => ∃ (fW : Int), v23 = .int .i64 fW ∧ Aside0 (spec_MatrixOk.l1 kq l0 l0 (l0.length : Int) dD (rd_L3 l0 dD) ((rd_L3 l0 dD).length : Int) fW = some r) ∧ Aside0 (kq ≤ k1) ∧ Drawn0 w w')); case atStart => exact ⟨(0), zz5, H', ⟨Nat.le_refl _⟩, by repeat (first | exact Drawn0.refl _ | apply Drawn0.step)⟩
   case round =>
    clear H'; (try clear c1); (try clear p1); (try clear q1); (try clear hx1); (try clear c2); (try clear jT); (try clear lU); (try clear p2); (try clear c3); (try clear dB); (try clear c4); (try clear cY); (try clear c5); (try clear dF); (try clear c6); (try clear eN); (try clear kS); (try clear qO); (try clear a8); (try clear p101); (try clear p2); (try clear q101); obtain ⟨fW, rfl, HA, HK2, ⟨m2, rfl⟩⟩ := hrel
    cases gk with
    | zero => exact absurd HA.out (by simp [spec_MatrixOk.l1])
    | succ k2 =>
     have H := HA.out; clear HA; simp only [spec_MatrixOk.l1] at H; by_cases c7 : fW < ((rd_L3 l0 dD).length : Int); rotate_left
     ·rw [if_neg c7] at H; have dL := decide_eq_false c7; (try (have gX := dL; first | rw [bJ] at gX | rw [← bJ] at gX)); clear c7; have H' := zK_ H; clear H; go_wp2; go_roundg k2; (case measure => have := HK1.out; have := HK2.out; omega); case rel => exact ⟨(wrap64 (dD + 1)), zz5, H', ⟨zz50⟩, by repeat (first | exact Drawn0.refl _ | apply Drawn0.step)⟩
     rw [if_pos c7] at H; have dL := decide_eq_true c7; (try (have gX := dL; first | rw [bJ] at gX | rw [← bJ] at gX)); clear c7; by_cases c8 : 0 ≤ fW; rotate_left
     ·rw [if_neg c8] at H; exact absurd H (by simp)
     rw [if_pos c8] at H; have fL := decide_eq_true c8; clear c8; by_cases c9 : fW < ((rd_L3 l0 dD).length : Int); rotate_left
     ·rw [if_neg c9] at H; exact absurd H (by simp)
     rw [if_pos c9] at H; have fJ := decide_eq_true c9; (try (have kU := fJ; first | rw [bJ] at kU | rw [← bJ] at kU)); clear c9; obtain ⟨bL, A100, H⟩ := zO_ H; (try dsimp only at H); have A10 := zK_ A100; clear A100; by_cases c11 : bL = true; rotate_left
     ·replace c11 := Bool.eq_false_iff.mpr c11; subst c11; rw [if_neg (show ¬ (false = true) by decide)] at H; obtain rfl := Option.some.inj H; have p102 : 0 ≤ (fW : Int) := of_decide_eq_true zz3; have q102 : fW < ((rd_L3 l0 dD).length : Int) := of_decide_eq_true zz3; obtain ⟨cO, e102, a7⟩ := Kd.at_int HR101_0.out fW p102 q102; cases e102; replace p102 := eq_true p102; replace q102 := eq_true q102; (go_wp2_with (first | ((with_reducible refine gate_callee (f := 56) rfl ?_); refine goesL_ (some 28) rfl rfl Try.func56 (by kernel_rfl) rfl #[.int .i64 (rd (rd_L3 l0 dD) fW), .int .i64 (-500), .int .i64 500] rfl zz4 ?_; (with_reducible refine (spec_l01In.calls (rd (rd_L3 l0 dD) fW) (-500) 500 false _ A10.out).mono ?_); rintro e w' ⟨rfl, ⟨nd, rfl⟩⟩; refine ⟨_, rfl, ?_⟩))); go_ret; exact ⟨zz5, by repeat (first | exact Drawn0.refl _ | apply Drawn0.step)⟩
     subst c11; rw [if_pos rfl] at H; have H' := zK_ H; clear H; have p102 : 0 ≤ (fW : Int) := of_decide_eq_true zz3; have q102 : fW < ((rd_L3 l0 dD).length : Int) := of_decide_eq_true zz3; obtain ⟨cO, e102, a7⟩ := Kd.at_int HR101_0.out fW p102 q102; cases e102; replace p102 := eq_true p102; replace q102 := eq_true q102; (go_wp2_with (first | ((with_reducible refine gate_callee (f := 56) rfl ?_); refine goesL_ (some 28) rfl rfl Try.func56 (by kernel_rfl) rfl #[.int .i64 (rd (rd_L3 l0 dD) fW), .int .i64 (-500), .int .i64 500] rfl zz4 ?_; (with_reducible refine (spec_l01In.calls (rd (rd_L3 l0 dD) fW) (-500) 500 true _ A10.out).mono ?_); rintro e w' ⟨rfl, ⟨nd, rfl⟩⟩; refine ⟨_, rfl, ?_⟩))); go_roundg k2; (case measure => have := HK1.out; have := HK2.out; omega); case rel => exact ⟨(wrap64 (fW + 1)), zz5, H', ⟨zz50⟩, by repeat (first | exact Drawn0.refl _ | apply Drawn0.step)⟩
end Go.Proofs.Ytnbljcgdgblgoaa.P
end

section
namespace Go.Proofs.Ytnbljcgdgblgoaa.P
open Go.RowKit Go.Proofs.YtnbljcgdgblgoaaW.PrintWords Go.Proofs.YtnbljcgdgblgoaaW.PrintLast Go.Proofs.YtnbljcgdgblgoaaW.PrintMore
attribute [local go_sem] max2_int min2_int max_two min_two max_three min_three max_four min_four
set_option linter.unusedVariables false
set_option linter.unusedSimpArgs false
mutual
def spec_l03Det.l0 : Nat → List (List Int) → List Int → List Int → Int → Int → List Int → Int → Int → Option (Int)
 | 0, _, _, _, _, _, _, _, _ => none
 | k + 1, x0, x1, x2, x7, x8, gZ, g9, g8 => if g8 < g9 then (if 0 ≤ g8 then (if g8 < (gZ.length : Int) then (if 0 < (x1.length : Int) then (if 0 ≤ (rd x1 0) then (if (rd x1 0) < (x0.length : Int) then (if 0 ≤ (rd gZ g8) then (if (rd gZ g8) < ((rd_L3 x0 (rd x1 0)).length : Int) then (if (rd (rd_L3 x0 (rd x1 0)) (rd gZ g8)) = 0 then (spec_l03Det.l0 k x0 x1 x2 x7 (wrap64 (-x8)) gZ g9 (wrap64 (g8 + 1))) else ((some (([] : List Int) : List Int)).bind fun eI => (if g8 ≤ (x2.length : Int) then (if eI.length + (x2.take (g8 : Int).toNat).length < 17592186044416 then ((some (eI ++ (x2.take (g8 : Int).toNat) : List Int)).bind fun bZ => (if 0 ≤ (wrap64 (g8 + 1)) then (if (wrap64 (g8 + 1)) ≤ (x2.length : Int) then (if bZ.length + (x2.drop ((wrap64 (g8 + 1)) : Int).toNat).length < 17592186044416 then (if 1 ≤ (x1.length : Int) then ((spec_l03Det.f k x0 (x1.drop 1) (bZ ++ (x2.drop ((wrap64 (g8 + 1)) : Int).toNat))).bind fun j4 => (spec_l03Det.l0 k x0 x1 x2 (wrap64 (x7 + (wrap64 ((wrap64 (x8 * (rd (rd_L3 x0 (rd x1 0)) (rd gZ g8)))) * j4)))) (wrap64 (-x8)) gZ g9 (wrap64 (g8 + 1)))) else (none)) else (none)) else (none)) else (none))) else (none)) else (none)))) else (none)) else (none)) else (none)) else (none)) else (none)) else (none)) else (none)) else (some x7)
def spec_l03Det.f : Nat → List (List Int) → List Int → List Int → Option (Int)
 | 0, _, _, _ => none
 | k + 1, l0, l1, l2 => if (l1.length : Int) = 0 then (some 1) else (spec_l03Det.l0 k l0 l1 l2 0 1 l2 (l2.length : Int) 0)
end
theorem spec_l03Det.mono_l : ∀ k, (∀ y0 y1 y2, LeO (spec_l03Det.f k y0 y1 y2) (spec_l03Det.f (k + 1) y0 y1 y2)) ∧ (∀ y0 y1 y2 y3 y4 y5 y6 y7, LeO (spec_l03Det.l0 k y0 y1 y2 y3 y4 y5 y6 y7) (spec_l03Det.l0 (k + 1) y0 y1 y2 y3 y4 y5 y6 y7))
 | 0 => ⟨fun _ _ _ r h => by simp [spec_l03Det.f] at h, fun _ _ _ _ _ _ _ _ r h => by simp [spec_l03Det.l0] at h⟩
 | k + 1 => by
  obtain ⟨ih0, ih1⟩ := spec_l03Det.mono_l k
  refine ⟨?_, ?_⟩
  ·intro y0 y1 y2
   unfold spec_l03Det.f
   exact zm1
  ·intro y0 y1 y2 y3 y4 y5 y6 y7
   unfold spec_l03Det.l0
   exact zm1
theorem spec_l03Det.mono : ∀ a0 a1 a2 k, LeO (spec_l03Det.f k a0 a1 a2) (spec_l03Det.f (k + 1) a0 a1 a2) := by
 intro a0 a1 a2 k; obtain ⟨ih0, ih1⟩ := spec_l03Det.mono_l k; exact ih0 a0 a1 a2
def spec_l03Det.T10 : Bool × List (List Nat × List Nat) := (true, [([], []), ([], []), ([], []), ([1, 2], [1, 2]), ([0, 3], [0, 3]), ([], []), ([], []), ([6], [6]), ([5, 7], [5, 7]), ([4, 8, 4], [4, 8]), ([9, 9, 0, 1, 2, 3, 4, 5, 6, 7, 8, 9], [9])])
def spec_l03Det.B10 : List Nat := [0, 0, 0, 6, 15, 0, 0, 64, 224, 511, 1023]
theorem spec_l03Det.tab10 : rtab .any (opsOf Try.f135 10) = spec_l03Det.T10 := by kernel_rfl
theorem spec_l03Det.bits10 : waitsOk spec_l03Det.T10.2 spec_l03Det.B10 = true := by kernel_rfl
theorem spec_l03Det.calls (k : Nat) : ∀ (A0 : Option Addr) (c0 : Nat) (l0 : List (List Int)) (A1 : Option Addr) (c1 : Nat) (l1 : List Int) (A2 : Option Addr) (c2 : Nat) (l2 : List Int) (r : Int) (w : World) (hr0 : Kd.C (Kd.slice 3 (Kd.int .i64)) w A0 l0.length l0) (hc0 : l0.length ≤ c0) (hr1 : Kd.C (Kd.int .i64) w A1 l1.length l1) (hc1 : l1.length ≤ c1) (hr2 : Kd.C (Kd.int .i64) w A2 l2.length l2) (hc2 : l2.length ≤ c2) (h : spec_l03Det.f k l0 l1 l2 = some r),
  Calls Try.prog 135 #[.slice A0 l0.length c0, .slice A1 l1.length c1, .slice A2 l2.length c2] w fun e w' => e = .returned (.int .i64 r) ∧ Below w.heap.size w w' := by
 induction k using Nat.strongRecOn with
 | _ k ih =>
 intro A0 c0 l0 A1 c1 l1 A2 c2 l2 r w hr0 hc0 hr1 hc1 hr2 hc2 h
 cases k with
 | zero => exact absurd h (by simp [spec_l03Det.f])
 | succ k =>
 simp only [spec_l03Det.f] at h; have HR0 := zK_ hr0; have HC0 := zK_ hc0; clear hr0 hc0; have HR1 := zK_ hr1; have HC1 := zK_ hc1; clear hr1 hc1; have HR2 := zK_ hr2; have HC2 := zK_ hc2; clear hr2 hc2; have HB := zK_ (Below.refl w.heap.size w); have H : (if (l1.length : Int) = 0 then (some 1) else (spec_l03Det.l0 k l0 l1 l2 0 1 l2 (l2.length : Int) 0)) = some r := h; clear h; by_cases c4 : (l1.length : Int) = 0
 ·rw [if_pos c4] at H; have cY : ((l1.length : Int) == 0) = true := beq_iff_eq.mpr c4; have jS : ((l1.length : Int) != 0) = false := bne_eq_false_iff_eq.mpr c4; clear c4; obtain rfl := Option.some.inj H; go_enter Try.func135, Try.ntmps135; go_wp2; go_ret; exact ⟨zz7, zz1⟩
 rw [if_neg c4] at H; have cY : ((l1.length : Int) == 0) = false := beq_eq_false_iff_ne.mpr c4; have jS : ((l1.length : Int) != 0) = true := bne_iff_ne.mpr c4; (have rJ : ¬ (l1 = []) := fun h_ => c4 (by rw [h_]; rfl)); have H' := zK_ H; clear H; go_enter Try.func135, Try.ntmps135; go_wp2; (go_loopg [7, 8, 18] k (fun kq v7 v8 v18 w' => ∃ (b8 : Int) (bK : Int) (bP : Int), v7 = .int .i64 b8 ∧ v8 = .int .i64 bK ∧ v18 = .int .i64 bP ∧ Aside0 (spec_l03Det.l0 kq l0 l1 l2 b8 bK l2 (l2.length : Int) bP = some r) ∧ Aside0 (kq ≤ k) ∧ Aside0 (Below w.heap.size w w'))); case atStart => exact ⟨(0), (1), (0), zz5, zz5, zz5, H', ⟨Nat.le_refl _⟩, ⟨zz1⟩⟩
 case round =>
  clear H'; (try clear c1); (try clear c2); (try clear p2); (try clear c4); (try clear cY); (try clear jS); (try clear rJ); obtain ⟨b8, bK, bP, rfl, rfl, rfl, HA, HK1, HB⟩ := hrel
  cases gk with
  | zero => exact absurd HA.out (by simp [spec_l03Det.l0])
  | succ k1 =>
   have H := HA.out; clear HA; simp only [spec_l03Det.l0] at H; by_cases c5 : bP < (l2.length : Int); rotate_left
   ·rw [if_neg c5] at H; have dF := decide_eq_false c5; (try (have kV := dF; first | rw [g6] at kV | rw [← g6] at kV)); clear c5; obtain rfl := Option.some.inj H; go_wp2; go_ret; exact ⟨zz7, zz1⟩
   rw [if_pos c5] at H; have dF := decide_eq_true c5; clear c5; by_cases c6 : 0 ≤ bP; rotate_left
   ·rw [if_neg c6] at H; exact absurd H (by simp)
   rw [if_pos c6] at H; have eN := decide_eq_true c6; clear c6; by_cases c7 : bP < (l2.length : Int); rotate_left
   ·rw [if_neg c7] at H; exact absurd H (by simp)
   rw [if_pos c7] at H; have dL := decide_eq_true c7; clear c7; by_cases c8 : 0 < (l1.length : Int); rotate_left
   ·rw [if_neg c8] at H; exact absurd H (by simp)
   rw [if_pos c8] at H; have fL := decide_eq_true c8; have sR : decide (0 < l1.length) = true := decide_eq_true (by omega); clear c8; by_cases c9 : 0 ≤ (rd l1 0); rotate_left
   ·rw [if_neg c9] at H; exact absurd H (by simp)
   rw [if_pos c9] at H; have fJ := decide_eq_true c9; clear c9; by_cases c10 : (rd l1 0) < (l0.length : Int); rotate_left
   ·rw [if_neg c10] at H; exact absurd H (by simp)
   rw [if_pos c10] at H; have gN := decide_eq_true c10; clear c10; by_cases c11 : 0 ≤ (rd l2 bP); rotate_left
   ·rw [if_neg c11] at H; exact absurd H (by simp)
   rw [if_pos c11] at H; have jY := decide_eq_true c11; clear c11; by_cases c12 : (rd l2 bP) < ((rd_L3 l0 (rd l1 0)).length : Int); rotate_left
   ·rw [if_neg c12] at H; exact absurd H (by simp)
   rw [if_pos c12] at H; have jX := decide_eq_true c12; clear c12; by_cases c13 : (rd (rd_L3 l0 (rd l1 0)) (rd l2 bP)) = 0
   ·rw [if_pos c13] at H; have iW : ((rd (rd_L3 l0 (rd l1 0)) (rd l2 bP)) == 0) = true := beq_iff_eq.mpr c13; have pI : ((rd (rd_L3 l0 (rd l1 0)) (rd l2 bP)) != 0) = false := bne_eq_false_iff_eq.mpr c13; clear c13; have H' := zK_ H; clear H; have p101 : 0 ≤ (bP : Int) := of_decide_eq_true zz3; have q101 : bP < (l2.length : Int) := of_decide_eq_true zz3; obtain ⟨cF, e101, a8⟩ := Kd.at_int HR2.out bP p101 q101; cases e101; replace a8 := (HB.out.cell (World.block_lt_of_cell? w _ a8)).trans a8; replace p101 := eq_true p101; replace q101 := eq_true q101; have p102 : 0 ≤ (0 : Int) := (by omega); have q102 : 0 < (l1.length : Int) := of_decide_eq_true zz3; obtain ⟨cO, e102, a7⟩ := Kd.at_int HR1.out 0 p102 q102; cases e102; have qi102 : (0 < l1.length) = True := eq_true (by omega); (try rw [show ((0 : Int)).toNat = 0 from rfl] at a7); (try rw [Addr.add_zero'] at a7); replace a7 := (HB.out.cell (World.block_lt_of_cell? w _ a7)).trans a7; replace p102 := eq_true p102; replace q102 := eq_true q102; have p103 : 0 ≤ ((rd l1 0) : Int) := of_decide_eq_true zz3; have q103 : (rd l1 0) < (l0.length : Int) := of_decide_eq_true zz3; obtain ⟨bD, A103_0, c103_0, e103, aQ, g6, hi103_0⟩ := at_L3 HR0.out (rd l1 0) p103 q103; cases e103; replace aQ := (HB.out.cell (World.block_lt_of_cell? w _ aQ)).trans aQ; have HR103_0 := zK_ hi103_0; have HC103_0 := zK_ g6; clear hi103_0 g6; replace p103 := eq_true p103; replace q103 := eq_true q103; have p104 : 0 ≤ ((rd l2 bP) : Int) := of_decide_eq_true zz3; have q104 : (rd l2 bP) < ((rd_L3 l0 (rd l1 0)).length : Int) := of_decide_eq_true zz3; obtain ⟨dE, e104, bE⟩ := Kd.at_int HR103_0.out (rd l2 bP) p104 q104; cases e104; replace bE := (HB.out.cell (World.block_lt_of_cell? w _ bE)).trans bE; replace p104 := eq_true p104; replace q104 := eq_true q104; go_wp2; go_roundg k1; (case measure => have := HK1.out; omega); case rel => exact ⟨(b8), (wrap64 (-bK)), (wrap64 (bP + 1)), zz5, zz5, zz5, H', ⟨zz34⟩, ⟨zz1⟩⟩
   rw [if_neg c13] at H; have iW : ((rd (rd_L3 l0 (rd l1 0)) (rd l2 bP)) == 0) = false := beq_eq_false_iff_ne.mpr c13; have pI : ((rd (rd_L3 l0 (rd l1 0)) (rd l2 bP)) != 0) = true := bne_iff_ne.mpr c13; obtain ⟨eI, hy_⟩ : ∃ y_ : List Int, y_ = (([] : List Int)) := ⟨_, rfl⟩; (replace H : (if bP ≤ (l2.length : Int) then (if eI.length + (l2.take (bP : Int).toNat).length < 17592186044416 then ((some (eI ++ (l2.take (bP : Int).toNat) : List Int)).bind fun bZ => (if 0 ≤ (wrap64 (bP + 1)) then (if (wrap64 (bP + 1)) ≤ (l2.length : Int) then (if bZ.length + (l2.drop ((wrap64 (bP + 1)) : Int).toNat).length < 17592186044416 then (if 1 ≤ (l1.length : Int) then ((spec_l03Det.f k1 l0 (l1.drop 1) (bZ ++ (l2.drop ((wrap64 (bP + 1)) : Int).toNat))).bind fun j4 => (spec_l03Det.l0 k1 l0 l1 l2 (wrap64 (b8 + (wrap64 ((wrap64 (bK * (rd (rd_L3 l0 (rd l1 0)) (rd l2 bP)))) * j4)))) (wrap64 (-bK)) l2 (l2.length : Int) (wrap64 (bP + 1)))) else (none)) else (none)) else (none)) else (none))) else (none)) else (none)) = some r := zzY); have iJ := zK_ hy_; clear hy_; have gE := eq_true (of_decide_eq_true zz3 : 0 ≤ bP); by_cases c15 : bP ≤ (l2.length : Int); rotate_left
   ·rw [if_neg c15] at H; exact absurd H (by simp)
   rw [if_pos c15] at H; have iF := eq_true c15; have pG : decide (bP ≤ (l2.length : Int)) = true := decide_eq_true c15; clear c15; by_cases c16 : eI.length + (l2.take (bP : Int).toNat).length < 17592186044416; rotate_left
   ·rw [if_neg c16] at H; exact absurd H (by simp)
   rw [if_pos c16] at H; have pQ := zK_ c16; clear c16; obtain ⟨bZ, hy_⟩ : ∃ y_ : List Int, y_ = (eI ++ (l2.take (bP : Int).toNat)) := ⟨_, rfl⟩; (replace H : (if 0 ≤ (wrap64 (bP + 1)) then (if (wrap64 (bP + 1)) ≤ (l2.length : Int) then (if bZ.length + (l2.drop ((wrap64 (bP + 1)) : Int).toNat).length < 17592186044416 then (if 1 ≤ (l1.length : Int) then ((spec_l03Det.f k1 l0 (l1.drop 1) (bZ ++ (l2.drop ((wrap64 (bP + 1)) : Int).toNat))).bind fun j4 => (spec_l03Det.l0 k1 l0 l1 l2 (wrap64 (b8 + (wrap64 ((wrap64 (bK * (rd (rd_L3 l0 (rd l1 0)) (rd l2 bP)))) * j4)))) (wrap64 (-bK)) l2 (l2.length : Int) (wrap64 (bP + 1)))) else (none)) else (none)) else (none)) else (none)) = some r := zzY); have fZ := zK_ hy_; clear hy_; obtain ⟨dA, fI⟩ : ∃ j_ : Int, (wrap64 (bP + 1)) = j_ := ⟨_, rfl⟩; (replace H : (if 0 ≤ (dA) then (if (dA) ≤ (l2.length : Int) then (if bZ.length + (l2.drop ((dA) : Int).toNat).length < 17592186044416 then (if 1 ≤ (l1.length : Int) then ((spec_l03Det.f k1 l0 (l1.drop 1) (bZ ++ (l2.drop ((dA) : Int).toNat))).bind fun j4 => (spec_l03Det.l0 k1 l0 l1 l2 (wrap64 (b8 + (wrap64 ((wrap64 (bK * (rd (rd_L3 l0 (rd l1 0)) (rd l2 bP)))) * j4)))) (wrap64 (-bK)) l2 (l2.length : Int) dA)) else (none)) else (none)) else (none)) else (none)) = some r := by first | (rw [fI] at H; exact H) | (simp only [fI] at H ⊢; exact H)); have xG : (IntKind.i64.wrap (bP + 1)) = dA := (i64_w _).trans fI; by_cases c18 : 0 ≤ (dA); rotate_left
   ·rw [if_neg c18] at H; exact absurd H (by simp)
   rw [if_pos c18] at H; have iD := eq_true c18; have nY : decide (0 ≤ (dA)) = true := decide_eq_true c18; clear c18; by_cases c19 : (dA) ≤ (l2.length : Int); rotate_left
   ·rw [if_neg c19] at H; exact absurd H (by simp)
   rw [if_pos c19] at H; have pF := eq_true c19; have BH : decide ((dA) ≤ (l2.length : Int)) = true := decide_eq_true c19; clear c19; by_cases c20 : bZ.length + (l2.drop ((dA) : Int).toNat).length < 17592186044416; rotate_left
   ·rw [if_neg c20] at H; exact absurd H (by simp)
   rw [if_pos c20] at H; have tQ := zK_ c20; clear c20; obtain ⟨n8, hy_⟩ : ∃ y_ : List Int, y_ = (bZ ++ (l2.drop ((dA) : Int).toNat)) := ⟨_, rfl⟩; (replace H : (if 1 ≤ (l1.length : Int) then ((spec_l03Det.f k1 l0 (l1.drop 1) n8).bind fun j4 => (spec_l03Det.l0 k1 l0 l1 l2 (wrap64 (b8 + (wrap64 ((wrap64 (bK * (rd (rd_L3 l0 (rd l1 0)) (rd l2 bP)))) * j4)))) (wrap64 (-bK)) l2 (l2.length : Int) dA)) else (none)) = some r := zzY); have pM := zK_ hy_; clear hy_; by_cases c21 : 1 ≤ (l1.length : Int); rotate_left
   ·rw [if_neg c21] at H; exact absurd H (by simp)
   rw [if_pos c21] at H; have iV := eq_true c21; have qX : decide (1 ≤ (l1.length : Int)) = true := decide_eq_true c21; clear c21; obtain ⟨j4, A220, H⟩ := zO_ H; (try dsimp only at H); have A22 := zK_ A220; clear A220; have H' := zK_ H; clear H; have p101 : 0 ≤ (bP : Int) := of_decide_eq_true zz3; have q101 : bP < (l2.length : Int) := of_decide_eq_true zz3; obtain ⟨cF, e101, a8⟩ := Kd.at_int HR2.out bP p101 q101; cases e101; replace a8 := (HB.out.cell (World.block_lt_of_cell? w _ a8)).trans a8; replace p101 := eq_true p101; replace q101 := eq_true q101; have p102 : 0 ≤ (0 : Int) := (by omega); have q102 : 0 < (l1.length : Int) := of_decide_eq_true zz3; obtain ⟨cO, e102, a7⟩ := Kd.at_int HR1.out 0 p102 q102; cases e102; have qi102 : (0 < l1.length) = True := eq_true (by omega); (try rw [show ((0 : Int)).toNat = 0 from rfl] at a7); (try rw [Addr.add_zero'] at a7); replace a7 := (HB.out.cell (World.block_lt_of_cell? w _ a7)).trans a7; replace p102 := eq_true p102; replace q102 := eq_true q102; have p103 : 0 ≤ ((rd l1 0) : Int) := of_decide_eq_true zz3; have q103 : (rd l1 0) < (l0.length : Int) := of_decide_eq_true zz3; obtain ⟨bD, A103_0, c103_0, e103, aQ, g6, hi103_0⟩ := at_L3 HR0.out (rd l1 0) p103 q103; cases e103; replace aQ := (HB.out.cell (World.block_lt_of_cell? w _ aQ)).trans aQ; have HR103_0 := zK_ hi103_0; have HC103_0 := zK_ g6; clear hi103_0 g6; replace p103 := eq_true p103; replace q103 := eq_true q103; have p104 : 0 ≤ ((rd l2 bP) : Int) := of_decide_eq_true zz3; have q104 : (rd l2 bP) < ((rd_L3 l0 (rd l1 0)).length : Int) := of_decide_eq_true zz3; obtain ⟨dE, e104, bE⟩ := Kd.at_int HR103_0.out (rd l2 bP) p104 q104; cases e104; replace bE := (HB.out.cell (World.block_lt_of_cell? w _ bE)).trans bE; replace p104 := eq_true p104; replace q104 := eq_true q104; (try go_wp2); replace HB := zK_ (below_drew1 HB.out); obtain ⟨i024, hi024, _, hsz24, _⟩ := info_parts info3; obtain ⟨hcut24, hA24, hC24⟩ := print_take_of (P := Try.prog) (Value.int .i64) 0 26 3 .i64 Try.underlying26 hi024 hsz24 (some cF) c2 l2 bP (of_decide_eq_true zz3) (of_decide_eq_true zz3) HC2.out; have HR108 := zK_ (Kd.C_of_reads (h1 := fun _ => rfl) (hA24 _ (Kd.reads_of_C HR2.out))); have HC108 := zK_ hC24; clear hA24 hC24 hi024 hsz24; obtain ⟨i025, hi025, _, hsz25, _⟩ := info_parts info3; obtain ⟨A25, hcut25, hA25, hC25⟩ := print_drop_of (P := Try.prog) (Value.int .i64) 0 26 3 .i64 Try.underlying26 hi025 hsz25 (some cF) c2 l2 (dA) (of_decide_eq_true zz3) (of_decide_eq_true zz3) HC2.out; have HR112 := zK_ (Kd.C_of_reads (h1 := fun _ => rfl) (hA25 _ (Kd.reads_of_C HR2.out))); have HC112 := zK_ hC25; clear hA25 hC25 hi025 hsz25; refine start_ (n := 11) (S := fun w' => True) (ds := []) (zM 11 0) (by kernel_rfl) rfl rfl trivial (fun hHeld => ?_); refine with_tabW spec_l03Det.tab10 spec_l03Det.bits10 (fun HT_ HW_ => ?_); generalize wr.drew = w23 at HB HR108 HR112 hHeld ⊢; refine zQ 1 35 (zM 11 2) ?_
   refine zQ 2 36 (zM 11 6) ?_
   refine zQ 3 37 (zM 11 14) ?_
   refine zQ 5 39 (zM 11 46) ?_
   refine zQ 6 40 (zM 11 110) ?_
   refine zQ 7 41 (zM 11 238) ?_
   refine zQ 8 42 (zM 11 494) ?_
   refine one_ (i := 0) (N := some 34) (zM 11 495) rfl rfl (one_of HT_.out (by kernel_rfl)) (by decide) (fun K hK => ?_); refine Kd.R_lit_step (Kd.int .i64) _ 3 ?hg (N := 34) ?hd (xs := ([] : List Int)) (inner := []) (ok := fun _ => True) (okp := fun _ => True) ?hr ?hp (fun _ hk => hk) trivial (Below.refl _ _) (Nat.le_refl _) (by simp) ?_; (case hd => rfl); (case hg => rfl); (case hr => exact zz9); (case hp => exact (Reps.none _ _)); intro v106 w26 ho27 hb hg_ hnew_; clear hg_ hnew_; (first | rw [← iJ.out] at ho27 | (simp only [Int.reduceToNat] at ho27; rw [← iJ.out] at ho27)); have n_ := zA2 (Kd.R_lower ho27 (below_size zz1)) (below_step zz1 hb); clear HB; obtain ⟨eM, HB⟩ := n_; clear hb ho27; refine hK.out _ _ trivial (fun hHeld => ?_); clear hK K; refine norm_ (a' := ?_) ?_ ?_; rotate_left
   ·show Act.put _ (some 34) _ = _; exact zzS
   refine one_ (i := 4) (N := some 38) (zM 11 511) rfl rfl (one_of HT_.out (by kernel_rfl)) (by decide) (fun K hK => ?_); refine Kd.R_append_rows_step (Kd.int .i64) (w0 := w) w.heap.size (by rfl) (.tmp 34) (.tmp 37) 26 3 (.int .i64 0) 8 rfl Try.underlying26 info3 rfl (by decide) (by omega) v106 eI (l2.take (bP : Int).toNat) _ _ _ (fun _ => True) (fun _ => False) rfl rfl ?aO ?aR (fun _ _ h => h) (fun _ h => h.elim) ?aF ?aB ?aS ?aL ?_; (case aR => first | exact (Kd.C_below HR108.out HB.out) | (have h__ := (Kd.C_below HR108.out HB.out); rw [show (l2.take (bP : Int).toNat).length = bP.toNat from (by rw [List.length_take]; have h_ : (bP : Int) ≤ (l2.length : Int) := of_decide_eq_true zz3; omega)] at h__; exact h__) | (rw [← show (l2.take (bP : Int).toNat).length = bP.toNat from (by rw [List.length_take]; have h_ : (bP : Int) ≤ (l2.length : Int) := of_decide_eq_true zz3; omega)]; repeat (first | exact (Kd.C_below HR108.out HB.out) | (with_reducible refine Kd.C_alloc ?_ _) | (with_reducible refine Kd.C_drewN ?_ _) | (with_reducible refine Kd.C_drew ?_))) | (repeat (first | exact (Kd.C_below HR108.out HB.out) | (with_reducible refine Kd.C_alloc ?_ _) | (with_reducible refine Kd.C_drewN ?_ _) | (with_reducible refine Kd.C_drew ?_)))); (case aB => exact zz1); (case aF => exact (fun _ _ => trivial)); (case aO => exact (by (with_reducible repeat (first | apply Kd.R_alloc | apply Kd.R_drewN | apply Kd.R_drew)); exact eM.out)); (case aS => exact (below_size zz1)); (case aL => have := pQ.out; have hlx_ := (show (l2.take (bP : Int).toNat).length = bP.toNat from (by rw [List.length_take]; have h_ : (bP : Int) ≤ (l2.length : Int) := of_decide_eq_true zz3; omega)); omega); intro v110 w28 ho hb hg hat; rw [← fZ.out] at ho; have n_ := zA2 hb ho; clear HB eM; obtain ⟨HB, bW⟩ := n_; clear ho hb hg hat; refine hK.out _ _ trivial (fun hHeld => ?_); clear hK K; refine norm_ (a' := ?_) ?_ ?_; rotate_left
   ·show Act.put _ (some 38) _ = _; exact zzS
   refine one_ (i := 9) (N := some 43) (zM 11 1023) rfl rfl (one_of HT_.out (by kernel_rfl)) (by decide) (fun K hK => ?_); refine Kd.R_append_rows_step (Kd.int .i64) (w0 := w) w.heap.size (by rfl) (.tmp 38) (.tmp 42) 26 3 (.int .i64 0) 8 rfl Try.underlying26 info3 rfl (by decide) (by omega) v110 bZ (l2.drop ((dA) : Int).toNat) _ _ _ (fun _ => True) (fun _ => False) rfl rfl ?aO ?aR (fun _ _ h => h) (fun _ h => h.elim) ?aF ?aB ?aS ?aL ?_; (case aR => first | exact (Kd.C_below HR112.out HB.out) | (have h__ := (Kd.C_below HR112.out HB.out); rw [show (l2.drop ((dA) : Int).toNat).length = (l2.length - (dA).toNat) from List.length_drop] at h__; exact h__) | (rw [← show (l2.drop ((dA) : Int).toNat).length = (l2.length - (dA).toNat) from List.length_drop]; repeat (first | exact (Kd.C_below HR112.out HB.out) | (with_reducible refine Kd.C_alloc ?_ _) | (with_reducible refine Kd.C_drewN ?_ _) | (with_reducible refine Kd.C_drew ?_))) | (repeat (first | exact (Kd.C_below HR112.out HB.out) | (with_reducible refine Kd.C_alloc ?_ _) | (with_reducible refine Kd.C_drewN ?_ _) | (with_reducible refine Kd.C_drew ?_)))); (case aB => exact zz1); (case aF => exact (fun _ _ => trivial)); (case aO => exact (by (with_reducible repeat (first | apply Kd.R_alloc | apply Kd.R_drewN | apply Kd.R_drew)); exact bW.out)); (case aS => exact (below_size zz1)); (case aL => have := tQ.out; have hlx_ := (show (l2.drop ((dA) : Int).toNat).length = (l2.length - (dA).toNat) from List.length_drop); omega); intro v114 w29 ho hb hg hat; rw [← pM.out] at ho; have n_ := zA2 hb ho; clear HB bW; obtain ⟨HB, j1⟩ := n_; clear ho hb hg hat; refine hK.out _ _ trivial (fun hHeld => ?_); clear hK K; refine norm_ (a' := ?_) ?_ ?_; rotate_left
   ·show Act.put _ (some 43) _ = _; exact zzS
   refine zQ 10 12 (zM 11 2047) ?_
   refine done_ (done_of HT_.out (by kernel_rfl)) ?_; obtain ⟨i030, hi030, _, hsz30, _⟩ := info_parts info3; obtain ⟨A30, hcut30, hA30, hC30⟩ := print_drop_of (P := Try.prog) (Value.int .i64) 0 26 3 .i64 Try.underlying26 hi030 hsz30 (some cO) c1 l1 1 (by omega) (of_decide_eq_true zz3) HC1.out; have HR116 := zK_ (Kd.C_of_reads (h1 := fun _ => rfl) (hA30 _ (Kd.reads_of_C HR1.out))); have HC116 := zK_ hC30; clear hA30 hC30 hi030 hsz30; obtain ⟨Ao31, co31, yF⟩ := Kd.R_slice j1.out; subst yF; (try go_wp2_with (first | ((with_reducible refine gate_callee (f := 135) rfl ?_); refine goesL_ (some 52) rfl rfl Try.func135 (by kernel_rfl) rfl #[.slice (some bD) l0.length c0, .slice A30 (l1.drop 1).length (c1 - 1), .slice Ao31 n8.length co31] rfl (by (try simp only [List.map_toArray, List.map_cons, List.map_nil]); first | done | (rw [show (l1.drop 1).length = (l1.length - 1) from List.length_drop] <;> rfl) | rfl | (simp only [List.length_drop, List.length_take]; rfl)) ?_; (with_reducible refine (ih k1 (by have := HK1.out; omega) _ _ l0 _ _ (l1.drop 1) _ _ n8 j4 _ ?side1 ?side2 ?side3 ?side4 ?side5 ?side6 A22.out).mono ?_); (case side1 => exact zz45); (case side2 => exact HC0.out); (case side3 => repeat (first | exact (Kd.C_below HR116.out HB.out) | (with_reducible refine Kd.C_alloc ?_ _) | (with_reducible refine Kd.C_drewN ?_ _) | (with_reducible refine Kd.C_drew ?_))); (case side4 => exact HC116.out); (case side5 => repeat (first | exact (Kd.R_reads' j1.out).2.2 | (with_reducible refine Kd.C_alloc ?_ _) | (with_reducible refine Kd.C_drewN ?_ _) | (with_reducible refine Kd.C_drew ?_))); (case side6 => exact (Kd.R_reads' j1.out).2.1); rintro e w32 ⟨rfl, hb⟩; refine ⟨_, rfl, ?_⟩; have n_ := zA2 (Kd.R_below (by (with_reducible repeat (first | apply Kd.R_alloc | apply Kd.R_drewN | apply Kd.R_drew)); exact j1.out) hb) (below_step zz1 hb); clear j1 HB; obtain ⟨j1, HB⟩ := n_; clear hb))); go_roundg k1; (case measure => have := HK1.out; omega); case rel => exact ⟨(wrap64 (b8 + (wrap64 ((wrap64 (bK * (rd (rd_L3 l0 (rd l1 0)) (rd l2 bP)))) * j4)))), (wrap64 (-bK)), (dA), zz5, zz5, (by first | rfl | (simp; done) | (simp only [← fI] <;> (first | rfl | simp)) | (simp [*]; done)), H', ⟨zz34⟩, ⟨zz1⟩⟩
end Go.Proofs.Ytnbljcgdgblgoaa.P
end

section
namespace Go.Proofs.Ytnbljcgdgblgoaa.P
open Go.RowKit Go.Proofs.YtnbljcgdgblgoaaW.PrintWords Go.Proofs.YtnbljcgdgblgoaaW.PrintLast Go.Proofs.YtnbljcgdgblgoaaW.PrintMore
attribute [local go_sem] max2_int min2_int max_two min_two max_three min_three max_four min_four
set_option linter.unusedVariables false
set_option linter.unusedSimpArgs false
def spec_l03All.l0 : Nat → Int → List Int → Int → Option (List Int)
 | 0, _, _, _ => none
 | k + 1, x0, x3, x4 => if x4 < x0 then (if x3.length < 17592186044416 then (spec_l03All.l0 k x0 (x3 ++ [x4]) (wrap64 (x4 + 1))) else (none)) else (some x3)
def spec_l03All.f (k : Nat) (a0 : Int) : Option (List Int) := spec_l03All.l0 k a0 (([] : List Int)) 0
theorem spec_l03All.mono_l : ∀ k, (∀ y0 y1 y2, LeO (spec_l03All.l0 k y0 y1 y2) (spec_l03All.l0 (k + 1) y0 y1 y2))
 | 0 => fun _ _ _ r h => by simp [spec_l03All.l0] at h
 | k + 1 => by
  have ih0 := spec_l03All.mono_l k
  ·intro y0 y1 y2
   unfold spec_l03All.l0
   exact zm0
theorem spec_l03All.mono : ∀ a0 k, LeO (spec_l03All.f k a0) (spec_l03All.f (k + 1) a0) := by
 intro a0 k; have ih0 := spec_l03All.mono_l k; unfold spec_l03All.f; exact zm0
theorem spec_l03All.calls (k : Nat) (a0 : Int) (r : List Int) (w : World) (h : spec_l03All.f k a0 = some r) :
  Calls Try.prog 136 #[.int .i64 a0] w fun e w' => ∃ v0_ : Value, e = .returned (v0_) ∧ Kd.R (Kd.int .i64) 3 w' w.heap.size (fun _ => True) v0_ r ∧ Below w.heap.size w w' := by
 have HB := zK_ (Below.refl w.heap.size w); have H : (spec_l03All.l0 k a0 (([] : List Int)) 0) = some r := h; clear h; obtain ⟨fA, hy_⟩ : ∃ y_ : List Int, y_ = (([] : List Int)) := ⟨_, rfl⟩; (replace H : (spec_l03All.l0 k a0 fA 0) = some r := zzY); have gF := zK_ hy_; clear hy_; have H' := zK_ H; clear H; go_enter Try.func136, Try.ntmps136; (go_wp2_with (first | ((with_reducible refine gate_dst (N := 5) rfl ?_); refine Kd.R_lit (Kd.int .i64) _ 3 ?hg (N := 5) ?hd (xs := ([] : List Int)) (inner := []) (ok := fun _ => True) (okp := fun _ => True) ?hr ?hp (fun _ hk => hk) trivial (Below.refl _ _) (Nat.le_refl _) (by simp) ?_; (case hd => rfl); (case hg => rfl); (case hr => exact zz9); (case hp => exact (Reps.none _ _)); intro v102 w2 ho3 hb hg_ hnew_; clear hg_ hnew_; (first | rw [← gF.out] at ho3 | (simp only [Int.reduceToNat] at ho3; rw [← gF.out] at ho3)); have n_ := zA2 (Kd.R_lower ho3 (below_size zz1)) (below_step zz1 hb); clear HB; obtain ⟨jR, HB⟩ := n_; clear hb ho3))); (go_loopg [3, 4] k (fun kq v3 v4 w' => ∃ (bT : List Int) (aX : Int), v4 = .int .i64 aX ∧ Aside0 (spec_l03All.l0 kq a0 bT aX = some r) ∧ Aside0 (kq ≤ k) ∧ Aside0 (Kd.R (Kd.int .i64) 3 w' w.heap.size (fun _ => True) v3 bT) ∧ Aside0 (Below w.heap.size w w'))); case atStart => exact ⟨(fA), (0), zz5, H', ⟨Nat.le_refl _⟩, ⟨zz40⟩, ⟨zz1⟩⟩
 case round =>
  clear H'; (try clear c1); (try clear p2); obtain ⟨bT, aX, rfl, HA, HK1, bC, HB⟩ := hrel
  cases gk with
  | zero => exact absurd HA.out (by simp [spec_l03All.l0])
  | succ k1 =>
   have H := HA.out; clear HA; simp only [spec_l03All.l0] at H; by_cases c4 : aX < a0; rotate_left
   ·rw [if_neg c4] at H; have cY := decide_eq_false c4; clear c4; obtain rfl := Option.some.inj H; go_wp2; go_ret; exact ⟨_, zz7, zz19, zz1⟩
   rw [if_pos c4] at H; have cY := decide_eq_true c4; clear c4; by_cases c5 : bT.length < 17592186044416; rotate_left
   ·rw [if_neg c5] at H; exact absurd H (by simp)
   rw [if_pos c5] at H; have yK := zK_ c5; clear c5; obtain ⟨kI, hy_⟩ : ∃ y_ : List Int, y_ = (bT ++ [aX]) := ⟨_, rfl⟩; (replace H : (spec_l03All.l0 k1 a0 kI (wrap64 (aX + 1))) = some r := zzY); have jP := zK_ hy_; clear hy_; have H' := zK_ H; clear H; (go_wp2_with (first | ((with_reducible refine gate_builtin (b := .append) (xs := #[.tmp 11, .tmp 13]) rfl ?_); at_builtin; refine Kd.R_append (Kd.int .i64) (w0 := w) w.heap.size rfl (.tmp 11) (.tmp 13) 26 3 (.int .i64 0) 8 rfl Try.underlying26 info3 rfl (by decide) (by omega) u3 bT aX [.int .i64 aX] (fun _ => True) (fun _ => False) rfl rfl ?aP (fun _ hk => hk.elim) ?aF ?aO ?aB ?aS ?aL ?_; (case aP => exact rfl); (case aB => exact zz1); (case aF => exact (fun _ _ => trivial)); (case aO => exact zz19); (case aS => exact (below_size zz1)); (case aL => have := yK.out; omega); intro v105 w6 ho hb hg hat; rw [← jP.out] at ho; have n_ := zA2 hb ho; clear HB bC; obtain ⟨HB, gU⟩ := n_; clear ho hb hg hat))); go_roundg k1; (case measure => have := HK1.out; omega); case rel => exact ⟨(kI), (wrap64 (aX + 1)), zz5, H', ⟨zz34⟩, ⟨by (with_reducible repeat (first | apply Kd.R_alloc | apply Kd.R_drewN | apply Kd.R_drew)); exact gU.out⟩, ⟨zz1⟩⟩
def spec_Determinant.f (k : Nat) (l0 : List (List Int)) : Option (Int) := (spec_MatrixOk.f k l0).bind fun cZ => (if cZ = true then ((spec_l03All.f k (l0.length : Int)).bind fun bA => ((spec_l03All.f k (l0.length : Int)).bind fun eQ => ((spec_l03Det.f k l0 bA eQ).bind fun fN => (some fN)))) else (some 0))
theorem spec_Determinant.mono : ∀ a0 k, LeO (spec_Determinant.f k a0) (spec_Determinant.f (k + 1) a0) := by
 intro a0 k; unfold spec_Determinant.f; repeat' first | (with_reducible apply spec_MatrixOk.mono) | (with_reducible apply spec_l03All.mono) | (with_reducible apply spec_l03Det.mono) | (with_reducible exact LeO.refl _) | (with_reducible exact LeO.none _) | (with_reducible refine LeO.ite ?_ ?_) | (with_reducible refine LeO.bind ?_ (fun _ => ?_)) | apply spec_MatrixOk.mono | apply spec_l03All.mono | apply spec_l03Det.mono | exact LeO.none _ | refine LeO.ite ?_ ?_ | refine LeO.bind ?_ (fun _ => ?_)
theorem spec_Determinant.calls (k : Nat) (A0 : Option Addr) (c0 : Nat) (l0 : List (List Int)) (r : Int) (w : World) (hr0 : Kd.C (Kd.slice 3 (Kd.int .i64)) w A0 l0.length l0) (hc0 : l0.length ≤ c0) (h : spec_Determinant.f k l0 = some r) :
  Calls Try.prog 106 #[.slice A0 l0.length c0] w fun e w' => e = .returned (.int .i64 r) ∧ Below w.heap.size w w' := by
 have HR0 := zK_ hr0; have HC0 := zK_ hc0; clear hr0 hc0; have HB := zK_ (Below.refl w.heap.size w); have H : ((spec_MatrixOk.f k l0).bind fun cZ => (if cZ = true then ((spec_l03All.f k (l0.length : Int)).bind fun bA => ((spec_l03All.f k (l0.length : Int)).bind fun eQ => ((spec_l03Det.f k l0 bA eQ).bind fun fN => (some fN)))) else (some 0))) = some r := h; clear h; obtain ⟨cZ, A20, H⟩ := zO_ H; (try dsimp only at H); have A2 := zK_ A20; clear A20; by_cases c3 : cZ = true; rotate_left
 ·replace c3 := Bool.eq_false_iff.mpr c3; subst c3; rw [if_neg (show ¬ (false = true) by decide)] at H; obtain rfl := Option.some.inj H; go_enter Try.func106, Try.ntmps106; (go_wp2_with (first | ((with_reducible refine gate_callee (f := 134) rfl ?_); refine goesL_ (some 4) rfl rfl Try.func134 (by kernel_rfl) rfl #[.slice A0 l0.length c0] rfl zz4 ?_; (with_reducible refine (spec_MatrixOk.calls k _ _ l0 false _ ?side1 ?side2 A2.out).mono ?_); (case side1 => exact zz26); (case side2 => exact HC0.out); rintro e w' ⟨rfl, ⟨nd, rfl⟩⟩; refine ⟨_, rfl, ?_⟩))); go_ret; exact ⟨zz7, zz1⟩
 subst c3; rw [if_pos rfl] at H; obtain ⟨bA, A40, H⟩ := zO_ H; (try dsimp only at H); have A4 := zK_ A40; clear A40; obtain ⟨eQ, A50, H⟩ := zO_ H; (try dsimp only at H); have A5 := zK_ A50; clear A50; obtain ⟨fN, A60, H⟩ := zO_ H; (try dsimp only at H); have A6 := zK_ A60; clear A60; obtain rfl := Option.some.inj H; go_enter Try.func106, Try.ntmps106; (go_wp2_with (first | ((with_reducible refine gate_callee (f := 134) rfl ?_); refine goesL_ (some 4) rfl rfl Try.func134 (by kernel_rfl) rfl #[.slice A0 l0.length c0] rfl zz4 ?_; (with_reducible refine (spec_MatrixOk.calls k _ _ l0 true _ ?side1 ?side2 A2.out).mono ?_); (case side1 => exact zz26); (case side2 => exact HC0.out); rintro e w' ⟨rfl, ⟨nd, rfl⟩⟩; refine ⟨_, rfl, ?_⟩) | ((with_reducible refine gate_callee (f := 136) rfl ?_); refine goesL_ (some 9) rfl rfl Try.func136 (by kernel_rfl) rfl #[.int .i64 (l0.length : Int)] rfl zz4 ?_; (with_reducible refine (spec_l03All.calls k (l0.length : Int) bA _ A4.out).mono ?_); rintro e w7 ⟨v103, rfl, ho0, hb⟩; refine ⟨_, rfl, ?_⟩; have n_ := zA2 (Kd.R_lower ho0 (below_size zz1)) (below_step zz1 hb); clear HB; obtain ⟨dT, HB⟩ := n_; clear ho0 hb) | ((with_reducible refine gate_callee (f := 136) rfl ?_); refine goesL_ (some 12) rfl rfl Try.func136 (by kernel_rfl) rfl #[.int .i64 (l0.length : Int)] rfl zz4 ?_; (with_reducible refine (spec_l03All.calls k (l0.length : Int) eQ _ A5.out).mono ?_); rintro e w8 ⟨v106, rfl, ho0, hb⟩; refine ⟨_, rfl, ?_⟩; have n_ := zA3 (Kd.R_elder' zz43 (Kd.R_base ho0) hb) (Kd.R_lower (Kd.R_new' ho0 (Kd.R_lt zz43)) (below_size zz1)) (below_step zz1 hb); clear dT HB; obtain ⟨dT, eM, HB⟩ := n_; clear ho0 hb; obtain ⟨Ao9, co9, xY⟩ := Kd.R_slice dT.out; subst xY; obtain ⟨Ao10, co10, kQ⟩ := Kd.R_slice eM.out; subst kQ) | ((with_reducible refine gate_callee (f := 135) rfl ?_); refine goesL_ (some 13) rfl rfl Try.func135 (by kernel_rfl) rfl #[.slice A0 l0.length c0, .slice Ao9 bA.length co9, .slice Ao10 eQ.length co10] rfl zz4 ?_; (with_reducible refine (spec_l03Det.calls k _ _ l0 _ _ bA _ _ eQ fN _ ?side1 ?side2 ?side3 ?side4 ?side5 ?side6 A6.out).mono ?_); (case side1 => exact zz45); (case side2 => exact HC0.out); (case side3 => repeat (first | exact (Kd.R_reads' dT.out).2.2 | (with_reducible refine Kd.C_alloc ?_ _) | (with_reducible refine Kd.C_drewN ?_ _) | (with_reducible refine Kd.C_drew ?_))); (case side4 => exact (Kd.R_reads' dT.out).2.1); (case side5 => repeat (first | exact (Kd.R_reads' eM.out).2.2 | (with_reducible refine Kd.C_alloc ?_ _) | (with_reducible refine Kd.C_drewN ?_ _) | (with_reducible refine Kd.C_drew ?_))); (case side6 => exact (Kd.R_reads' eM.out).2.1); rintro e w11 ⟨rfl, hb⟩; refine ⟨_, rfl, ?_⟩; have n_ := zA3 (Kd.R_below zz43 hb) (Kd.R_below (by (with_reducible repeat (first | apply Kd.R_alloc | apply Kd.R_drewN | apply Kd.R_drew)); exact eM.out) hb) (below_step zz1 hb); clear dT eM HB; obtain ⟨dT, eM, HB⟩ := n_; clear hb))); go_ret; exact ⟨zz7, zz1⟩
def spec_l02Vert.f (aD : Int) (aC : List (S57)) (a1 : Int) : Option (Bool) := if a1 ≥ 0 then (some (decide (a1 < aD))) else (some false)
theorem spec_l02Vert.calls (aD : Int) (aH : Option Addr) (aG : Nat) (aC : List (S57)) (a1 : Int) (r : Bool) (w : World) (hr0_1 : Kd.C k57 w aH aC.length aC) (hc0_1 : aC.length ≤ aG) (h : spec_l02Vert.f aD aC a1 = some r) :
  Calls Try.prog 103 #[.agg #[.int .i64 aD, .slice aH aC.length aG], .int .i64 a1] w fun e w' => e = .returned (.bool r) ∧ Below w.heap.size w w' := by
 have hu25 := Try.underlying25; have bM := zK_ hr0_1; have bG := zK_ hc0_1; clear hr0_1 hc0_1; have HB := zK_ (Below.refl w.heap.size w); have H : (if a1 ≥ 0 then (some (decide (a1 < aD))) else (some false)) = some r := h; clear h; by_cases c3 : a1 ≥ 0
 ·rw [if_pos c3] at H; have dB : decide (0 ≤ a1) = true := decide_eq_true c3; clear c3; obtain rfl := Option.some.inj H; go_enter Try.func103, Try.ntmps103; (go_wp2_with (first | ((with_reducible refine gate_dst (N := 2) rfl ?_); refine box_event ?hg (N := 2) ?hd (cs := #[.int .i64 aD, .slice aH aC.length aG]) (t := 25) ?hr ?_; (case hd => rfl); (case hg => rfl); (case hr => exact zz9); intro aE hg w4 hbox hb; have n_ := zA4 (below_step zz1 hb) hbox (zz10 : w.heap.size ≤ aE) (zz10 : w.heap.size ≤ aE); clear HB; obtain ⟨HB, aA, GW101, GE101⟩ := n_; clear hb hbox hg; have iC := zC20 aA; have iB := zC21 aA; have iA := blk_frozen aA.out 0; have hY := blk_frozen aA.out 1))); go_ret; exact ⟨zz7, zz0⟩
 rw [if_neg c3] at H; have dB : decide (0 ≤ a1) = false := decide_eq_false c3; clear c3; obtain rfl := Option.some.inj H; go_enter Try.func103, Try.ntmps103; (go_wp2_with (first | ((with_reducible refine gate_dst (N := 2) rfl ?_); refine box_event ?hg (N := 2) ?hd (cs := #[.int .i64 aD, .slice aH aC.length aG]) (t := 25) ?hr ?_; (case hd => rfl); (case hg => rfl); (case hr => exact zz9); intro aE hg w6 hbox hb; have n_ := zA4 (below_step zz1 hb) hbox (zz10 : w.heap.size ≤ aE) (zz10 : w.heap.size ≤ aE); clear HB; obtain ⟨HB, aA, GW101, GE101⟩ := n_; clear hb hbox hg))); go_ret; exact ⟨zz7, zz0⟩
mutual
def spec_Multiplicity.j0 : Nat → Int → Int → Int → Bool → Int → List (S57) → Option (Int)
 | 0, _, _, _, _, _, _ => none
 | k + 1, x1, x2, x7, pY, aM, aJ => if pY = true then (some 0) else (spec_Multiplicity.l0 k x1 x2 x7 aJ (aJ.length : Int) 0)
def spec_Multiplicity.l0 : Nat → Int → Int → Int → List (S57) → Int → Int → Option (Int)
 | 0, _, _, _, _, _, _ => none
 | k + 1, x1, x2, x7, oF, pV, mS => if mS < pV then (if 0 ≤ mS then (if mS < (oF.length : Int) then (if ((rd_T57 oF mS).f0) = (mn x1 x2) then (if ((rd_T57 oF mS).f1) = (mx x1 x2) then (spec_Multiplicity.l0 k x1 x2 (wrap64 (x7 + 1)) oF pV (wrap64 (mS + 1))) else (spec_Multiplicity.l0 k x1 x2 x7 oF pV (wrap64 (mS + 1)))) else (spec_Multiplicity.l0 k x1 x2 x7 oF pV (wrap64 (mS + 1)))) else (none)) else (none)) else (some x7)
end
def spec_Multiplicity.f (k : Nat) (aD : Int) (aC : List (S57)) (a1 : Int) (a2 : Int) : Option (Int) := (spec_l02Vert.f aD aC a1).bind fun bA => (if bA = true then ((spec_l02Vert.f aD aC a2).bind fun bL => (if bL = true then (spec_Multiplicity.j0 k a1 a2 0 (a1 == a2) aD aC) else (spec_Multiplicity.j0 k a1 a2 0 true aD aC))) else (spec_Multiplicity.j0 k a1 a2 0 true aD aC))
theorem spec_Multiplicity.mono_l : ∀ k, (∀ y0 y1 y2 y3 y4 y5, LeO (spec_Multiplicity.j0 k y0 y1 y2 y3 y4 y5) (spec_Multiplicity.j0 (k + 1) y0 y1 y2 y3 y4 y5)) ∧ (∀ y0 y1 y2 y3 y4 y5, LeO (spec_Multiplicity.l0 k y0 y1 y2 y3 y4 y5) (spec_Multiplicity.l0 (k + 1) y0 y1 y2 y3 y4 y5))
 | 0 => ⟨fun _ _ _ _ _ _ r h => by simp [spec_Multiplicity.j0] at h, fun _ _ _ _ _ _ r h => by simp [spec_Multiplicity.l0] at h⟩
 | k + 1 => by
  obtain ⟨ih0, ih1⟩ := spec_Multiplicity.mono_l k
  refine ⟨?_, ?_⟩
  ·intro y0 y1 y2 y3 y4 y5
   unfold spec_Multiplicity.j0
   exact zm1
  ·intro y0 y1 y2 y3 y4 y5
   unfold spec_Multiplicity.l0
   exact zm1
theorem spec_Multiplicity.mono : ∀ a0 a1 a2 a3 k, LeO (spec_Multiplicity.f k a0 a1 a2 a3) (spec_Multiplicity.f (k + 1) a0 a1 a2 a3) := by
 intro a0 a1 a2 a3 k; obtain ⟨ih0, ih1⟩ := spec_Multiplicity.mono_l k; unfold spec_Multiplicity.f; exact zm1
theorem spec_Multiplicity.calls (k : Nat) (aD : Int) (aH : Option Addr) (aG : Nat) (aC : List (S57)) (a1 : Int) (a2 : Int) (r : Int) (w : World) (hr0_1 : Kd.C k57 w aH aC.length aC) (hc0_1 : aC.length ≤ aG) (h : spec_Multiplicity.f k aD aC a1 a2 = some r) :
  Calls Try.prog 104 #[.agg #[.int .i64 aD, .slice aH aC.length aG], .int .i64 a1, .int .i64 a2] w fun e w' => e = .returned (.int .i64 r) ∧ Below w.heap.size w w' := by
 have hu25 := Try.underlying25; have hu57 := Try.underlying57; have bM := zK_ hr0_1; have bG := zK_ hc0_1; clear hr0_1 hc0_1; have HB := zK_ (Below.refl w.heap.size w); have H : ((spec_l02Vert.f aD aC a1).bind fun bA => (if bA = true then ((spec_l02Vert.f aD aC a2).bind fun bL => (if bL = true then (spec_Multiplicity.j0 k a1 a2 0 (a1 == a2) aD aC) else (spec_Multiplicity.j0 k a1 a2 0 true aD aC))) else (spec_Multiplicity.j0 k a1 a2 0 true aD aC))) = some r := h; clear h; have HC4 := zK_ H; clear H; go_enter Try.func104, Try.ntmps104; (go_upto_region 2 with (first | ((with_reducible refine gate_dst (N := 3) rfl ?_); (try (refine gate_guard (by rfl) ?_; dsimp only)); refine box_event ?hg (N := 3) ?hd (cs := #[.int .i64 aD, .slice aH aC.length aG]) (t := 25) ?hr ?_; (case hd => rfl); (case hg => rfl); (case hr => exact zz9); intro aE hg w5 hbox hb; have n_ := zA4 (below_step zz1 hb) hbox (zz10 : w.heap.size ≤ aE) (zz10 : w.heap.size ≤ aE); clear HB; obtain ⟨HB, aA, GW101, GE101⟩ := n_; clear hb hbox hg))); (try simp only [Act.put, List.setIfInBounds_toArray, List.set_cons_zero, List.set_cons_succ]); go_cut [24] (fun v24 wc => ∃ (kq : Nat) (m8 : Bool), v24 = .bool m8 ∧ Aside0 (spec_Multiplicity.j0 kq a1 a2 0 m8 aD aC = some r) ∧ Aside0 (kq ≤ k) ∧ Aside0 (wc.heap[aE]? = some (.cells #[.int .i64 aD, (.slice aH aC.length aG)] 25 (0, 0))) ∧ Aside0 (Below w.heap.size w wc))
 case first =>
  have H := HC4.out; clear HC4; obtain ⟨bA, A60, H⟩ := zO_ H; (try dsimp only at H); have A6 := zK_ A60; clear A60; by_cases c7 : bA = true; rotate_left
  ·replace c7 := Bool.eq_false_iff.mpr c7; subst c7; rw [if_neg (show ¬ (false = true) by decide)] at H; have H' := zK_ H; clear H; have kH := zC20 aA; have kG := zC21 aA; have kB := blk_frozen aA.out 0; have kA := blk_frozen aA.out 1; (go_wp2_with (first | ((with_reducible refine gate_callee (f := 103) rfl ?_); refine goesL_ (some 12) rfl rfl Try.func103 (by kernel_rfl) rfl #[.agg #[.int .i64 aD, .slice aH aC.length aG], .int .i64 a1] rfl zz4 ?_; (with_reducible refine (spec_l02Vert.calls aD _ _ aC a1 false _ ?side1 ?side2 A6.out).mono ?_); (case side1 => exact zz6); (case side2 => exact bG.out); rintro e w19 ⟨rfl, hb⟩; refine ⟨_, rfl, ?_⟩; have n_ := zA2 (blk_below (g := aE) (o := .cells #[.int .i64 aD, .slice aH aC.length aG] 25 (0, 0)) zz2 hb) (below_step zz0 hb); clear aA HB; obtain ⟨aA, HB⟩ := n_; clear hb))); (go_meet); case rel => exact ⟨_, (true), zz5, H', ⟨by first | omega | exact Nat.le_refl _⟩, ⟨zz2⟩, ⟨zz0⟩⟩
  subst c7; rw [if_pos rfl] at H; obtain ⟨bL, A80, H⟩ := zO_ H; (try dsimp only at H); have A8 := zK_ A80; clear A80; by_cases c9 : bL = true
  ·subst c9; rw [if_pos rfl] at H; have H' := zK_ H; clear H; have cN := zC20 aA; have cM := zC21 aA; have cK := blk_frozen aA.out 0; have cJ := blk_frozen aA.out 1; (go_wp2_with (first | ((with_reducible refine gate_callee (f := 103) rfl ?_); refine goesL_ (some 12) rfl rfl Try.func103 (by kernel_rfl) rfl #[.agg #[.int .i64 aD, .slice aH aC.length aG], .int .i64 a1] rfl zz4 ?_; (with_reducible refine (spec_l02Vert.calls aD _ _ aC a1 true _ ?side1 ?side2 A6.out).mono ?_); (case side1 => exact zz6); (case side2 => exact bG.out); rintro e w11 ⟨rfl, hb⟩; refine ⟨_, rfl, ?_⟩; have n_ := zA2 (blk_below (g := aE) (o := .cells #[.int .i64 aD, .slice aH aC.length aG] 25 (0, 0)) zz2 hb) (below_step zz0 hb); clear aA HB; obtain ⟨aA, HB⟩ := n_; clear hb; have fV := zC20 aA; have fU := zC21 aA; have fT := blk_frozen aA.out 0; have fS := blk_frozen aA.out 1) | (go_at_call 103; (with_reducible refine (spec_l02Vert.calls aD _ _ aC a2 true _ ?side1 ?side2 A8.out).mono ?_); (case side1 => exact zz6); (case side2 => exact bG.out); rintro e w13 ⟨rfl, hb⟩; have n_ := zA2 (blk_below (g := aE) (o := .cells #[.int .i64 aD, .slice aH aC.length aG] 25 (0, 0)) zz2 hb) (below_step zz0 hb); clear aA HB; obtain ⟨aA, HB⟩ := n_; (try clear hb); (try clear hb2); (try clear hk); (try clear hi)))); (go_meet); case rel => exact ⟨_, ((a1 == a2)), zz5, H', ⟨by first | omega | exact Nat.le_refl _⟩, ⟨zz2⟩, ⟨zz0⟩⟩
  replace c9 := Bool.eq_false_iff.mpr c9; subst c9; rw [if_neg (show ¬ (false = true) by decide)] at H; have H' := zK_ H; clear H; have eG := zC20 aA; have eF := zC21 aA; have dZ := blk_frozen aA.out 0; have dY := blk_frozen aA.out 1; (go_wp2_with (first | ((with_reducible refine gate_callee (f := 103) rfl ?_); refine goesL_ (some 12) rfl rfl Try.func103 (by kernel_rfl) rfl #[.agg #[.int .i64 aD, .slice aH aC.length aG], .int .i64 a1] rfl zz4 ?_; (with_reducible refine (spec_l02Vert.calls aD _ _ aC a1 true _ ?side1 ?side2 A6.out).mono ?_); (case side1 => exact zz6); (case side2 => exact bG.out); rintro e w15 ⟨rfl, hb⟩; refine ⟨_, rfl, ?_⟩; have n_ := zA2 (blk_below (g := aE) (o := .cells #[.int .i64 aD, .slice aH aC.length aG] 25 (0, 0)) zz2 hb) (below_step zz0 hb); clear aA HB; obtain ⟨aA, HB⟩ := n_; clear hb; have jK := zC20 aA; have jJ := zC21 aA; have jC := blk_frozen aA.out 0; have jB := blk_frozen aA.out 1) | (go_at_call 103; (with_reducible refine (spec_l02Vert.calls aD _ _ aC a2 false _ ?side1 ?side2 A8.out).mono ?_); (case side1 => exact zz6); (case side2 => exact bG.out); rintro e w17 ⟨rfl, hb⟩; have n_ := zA2 (blk_below (g := aE) (o := .cells #[.int .i64 aD, .slice aH aC.length aG] 25 (0, 0)) zz2 hb) (below_step zz0 hb); clear aA HB; obtain ⟨aA, HB⟩ := n_; (try clear hb); (try clear hb2); (try clear hk); (try clear hi)))); (go_meet); case rel => exact ⟨_, (true), zz5, H', ⟨by first | omega | exact Nat.le_refl _⟩, ⟨zz2⟩, ⟨zz0⟩⟩
 case rest =>
  clear HC4; (try clear c1); (try clear p2); (try clear c7); (try clear c9); (try clear c10); (try clear cN); (try clear cM); (try clear fV); (try clear fU); (try clear eG); (try clear eF); (try clear jK); (try clear jJ); (try clear kH); (try clear kG); (try clear cK); (try clear cJ); (try clear fT); (try clear fS); (try clear dZ); (try clear dY); (try clear jC); (try clear jB); (try clear kB); (try clear kA); obtain ⟨kq, m8, rfl, HA, HJ3, aA, HB⟩ := hcut
  cases kq with
  | zero => exact absurd HA.out (by simp [spec_Multiplicity.j0])
  | succ kj3 =>
   have H := HA.out; clear HA; simp only [spec_Multiplicity.j0] at H; by_cases c20 : m8 = true
   ·subst c20; rw [if_pos rfl] at H; obtain rfl := Option.some.inj H; go_wp2; go_ret; exact ⟨zz7, zz0⟩
   replace c20 := Bool.eq_false_iff.mpr c20; subst c20; rw [if_neg (show ¬ (false = true) by decide)] at H; have H' := zK_ H; clear H; have nT := zC20 aA; have nS := zC21 aA; have nL := blk_frozen aA.out 0; have nK := blk_frozen aA.out 1; go_wp2; (go_loopg [7, 28] kj3 (fun kq v7 v28 w' => ∃ (gM : Int) (cU : Int), v7 = .int .i64 gM ∧ v28 = .int .i64 cU ∧ Aside0 (spec_Multiplicity.l0 kq a1 a2 gM aC (aC.length : Int) cU = some r) ∧ Aside0 (kq ≤ kj3) ∧ Aside0 (w'.heap[aE]? = some (.cells #[.int .i64 aD, (.slice aH aC.length aG)] 25 (0, 0))) ∧ Aside0 (Below w.heap.size w w'))); case atStart => exact ⟨(0), (0), zz5, zz5, H', ⟨Nat.le_refl _⟩, ⟨zz2⟩, ⟨zz0⟩⟩
   case round =>
    clear H'; (try clear c1); (try clear c2); (try clear p2); (try clear c7); (try clear c9); (try clear c10); (try clear c20); (try clear cN); (try clear cM); (try clear fV); (try clear fU); (try clear eG); (try clear eF); (try clear jK); (try clear jJ); (try clear kH); (try clear kG); (try clear nT); (try clear nS); (try clear cK); (try clear cJ); (try clear fT); (try clear fS); (try clear dZ); (try clear dY); (try clear jC); (try clear jB); (try clear kB); (try clear kA); (try clear nL); (try clear nK); (try clear p2); obtain ⟨gM, cU, rfl, rfl, HA, HK2, aA, HB⟩ := hrel
    cases gk with
    | zero => exact absurd HA.out (by simp [spec_Multiplicity.l0])
    | succ k2 =>
     have H := HA.out; clear HA; simp only [spec_Multiplicity.l0] at H; by_cases c22 : cU < (aC.length : Int); rotate_left
     ·rw [if_neg c22] at H; have kY := decide_eq_false c22; clear c22; obtain rfl := Option.some.inj H; go_wp2; go_ret; exact ⟨zz7, zz0⟩
     rw [if_pos c22] at H; have kY := decide_eq_true c22; clear c22; by_cases c23 : 0 ≤ cU; rotate_left
     ·rw [if_neg c23] at H; exact absurd H (by simp)
     rw [if_pos c23] at H; have nX := decide_eq_true c23; clear c23; by_cases c24 : cU < (aC.length : Int); rotate_left
     ·rw [if_neg c24] at H; exact absurd H (by simp)
     rw [if_pos c24] at H; have pE := decide_eq_true c24; clear c24; obtain ⟨mW, oR⟩ : ∃ j_ : Int, (mn a1 a2) = j_ := ⟨_, rfl⟩; (replace H : (if ((rd_T57 aC cU).f0) = (mW) then (if ((rd_T57 aC cU).f1) = (mx a1 a2) then (spec_Multiplicity.l0 k2 a1 a2 (wrap64 (gM + 1)) aC (aC.length : Int) (wrap64 (cU + 1))) else (spec_Multiplicity.l0 k2 a1 a2 gM aC (aC.length : Int) (wrap64 (cU + 1)))) else (spec_Multiplicity.l0 k2 a1 a2 gM aC (aC.length : Int) (wrap64 (cU + 1)))) = some r := by first | (rw [oR] at H; exact H) | (simp only [oR] at H ⊢; exact H)); have wS : (if a2 < a1 then a2 else a1) = mW := oR; by_cases c26 : ((rd_T57 aC cU).f0) = (mW); rotate_left
     ·rw [if_neg c26] at H; have tC : (((rd_T57 aC cU).f0) == (mW)) = false := beq_eq_false_iff_ne.mpr c26; have tB : (((rd_T57 aC cU).f0) != (mW)) = true := bne_iff_ne.mpr c26; have H' := zK_ H; clear H; have p104 : 0 ≤ (cU : Int) := of_decide_eq_true zz3; have q104 : cU < (aC.length : Int) := of_decide_eq_true zz3; obtain ⟨dE, e104, bE, cV⟩ := at_T57 bM.out cU p104 q104; cases e104; replace bE := (HB.out.cell (World.block_lt_of_cell? w _ bE)).trans bE; replace cV := (HB.out.cell (World.block_lt_of_cell? w _ cV)).trans cV; replace p104 := eq_true p104; replace q104 := eq_true q104; (go_wp2_with (first | ((with_reducible refine gate_dst (N := 9) rfl ?_); (try (refine gate_guard (by rfl) ?_; dsimp only)); refine box_event ?hg (N := 9) ?hd (cs := #[.int .i64 0, .int .i64 0]) (t := 57) ?hr ?_; (case hd => rfl); (case hg => rfl); (case hr => exact zz9); intro gS hg w35 hbox hb; have n_ := zA7 (blk_below (g := aE) (o := .cells #[.int .i64 aD, .slice (some dE) aC.length aG] 25 (0, 0)) zz2 hb) (below_step zz0 hb) hbox (zz13 : w.heap.size ≤ gS) (zz13 : w.heap.size ≤ gS) (by rw [hg]; exact Nat.ne_of_lt (blk_lt (g := aE) (o := .cells #[.int .i64 aD, .slice (some dE) aC.length aG] 25 (0, 0)) zz2) : aE ≠ gS) (by rw [hg]; exact Nat.ne_of_gt (blk_lt (g := aE) (o := .cells #[.int .i64 aD, .slice (some dE) aC.length aG] 25 (0, 0)) zz2) : gS ≠ aE); clear aA HB; obtain ⟨aA, HB, gV, GW105, GE105, fQ, gY⟩ := n_; clear hb hbox hg; have z7 := gY.out; have zB := fQ.out; have vP := zC20 gV; have vO := zC21 gV; have uM := blk_frozen gV.out 0; have uL := blk_frozen gV.out 1))); go_roundg k2; (case measure => have := HJ3.out; have := HK2.out; omega); case rel => exact ⟨(gM), (wrap64 (cU + 1)), zz5, zz5, H', ⟨by have := HJ3.out; have := HK2.out; omega⟩, ⟨zz32⟩, ⟨zz55⟩⟩
     rw [if_pos c26] at H; have tC : (((rd_T57 aC cU).f0) == (mW)) = true := beq_iff_eq.mpr c26; have tB : (((rd_T57 aC cU).f0) != (mW)) = false := bne_eq_false_iff_eq.mpr c26; clear c26; obtain ⟨mV, oQ⟩ : ∃ j_ : Int, (mx a1 a2) = j_ := ⟨_, rfl⟩; (replace H : (if ((rd_T57 aC cU).f1) = (mV) then (spec_Multiplicity.l0 k2 a1 a2 (wrap64 (gM + 1)) aC (aC.length : Int) (wrap64 (cU + 1))) else (spec_Multiplicity.l0 k2 a1 a2 gM aC (aC.length : Int) (wrap64 (cU + 1)))) = some r := by first | (rw [oQ] at H; exact H) | (simp only [oQ] at H ⊢; exact H)); have wR : (if a1 < a2 then a2 else a1) = mV := oQ; by_cases c28 : ((rd_T57 aC cU).f1) = (mV); rotate_left
     ·rw [if_neg c28] at H; have pD : (((rd_T57 aC cU).f1) == (mV)) = false := beq_eq_false_iff_ne.mpr c28; have sZ : (((rd_T57 aC cU).f1) != (mV)) = true := bne_iff_ne.mpr c28; have H' := zK_ H; clear H; have p104 : 0 ≤ (cU : Int) := of_decide_eq_true zz3; have q104 : cU < (aC.length : Int) := of_decide_eq_true zz3; obtain ⟨dE, e104, bE, cV⟩ := at_T57 bM.out cU p104 q104; cases e104; replace bE := (HB.out.cell (World.block_lt_of_cell? w _ bE)).trans bE; replace cV := (HB.out.cell (World.block_lt_of_cell? w _ cV)).trans cV; replace p104 := eq_true p104; replace q104 := eq_true q104; (go_wp2_with (first | ((with_reducible refine gate_dst (N := 9) rfl ?_); (try (refine gate_guard (by rfl) ?_; dsimp only)); refine box_event ?hg (N := 9) ?hd (cs := #[.int .i64 0, .int .i64 0]) (t := 57) ?hr ?_; (case hd => rfl); (case hg => rfl); (case hr => exact zz9); intro gS hg w32 hbox hb; have n_ := zA7 (blk_below (g := aE) (o := .cells #[.int .i64 aD, .slice (some dE) aC.length aG] 25 (0, 0)) zz2 hb) (below_step zz0 hb) hbox (zz13 : w.heap.size ≤ gS) (zz13 : w.heap.size ≤ gS) (by rw [hg]; exact Nat.ne_of_lt (blk_lt (g := aE) (o := .cells #[.int .i64 aD, .slice (some dE) aC.length aG] 25 (0, 0)) zz2) : aE ≠ gS) (by rw [hg]; exact Nat.ne_of_gt (blk_lt (g := aE) (o := .cells #[.int .i64 aD, .slice (some dE) aC.length aG] 25 (0, 0)) zz2) : gS ≠ aE); clear aA HB; obtain ⟨aA, HB, gV, GW105, GE105, fQ, gY⟩ := n_; clear hb hbox hg; have AA := gY.out; have zD := fQ.out; have vT := zC20 gV; have vS := zC21 gV; have uQ := blk_frozen gV.out 0; have uP := blk_frozen gV.out 1))); go_roundg k2; (case measure => have := HJ3.out; have := HK2.out; omega); case rel => exact ⟨(gM), (wrap64 (cU + 1)), zz5, zz5, H', ⟨by have := HJ3.out; have := HK2.out; omega⟩, ⟨zz32⟩, ⟨zz55⟩⟩
     rw [if_pos c28] at H; have pD : (((rd_T57 aC cU).f1) == (mV)) = true := beq_iff_eq.mpr c28; have sZ : (((rd_T57 aC cU).f1) != (mV)) = false := bne_eq_false_iff_eq.mpr c28; clear c28; have H' := zK_ H; clear H; have p104 : 0 ≤ (cU : Int) := of_decide_eq_true zz3; have q104 : cU < (aC.length : Int) := of_decide_eq_true zz3; obtain ⟨dE, e104, bE, cV⟩ := at_T57 bM.out cU p104 q104; cases e104; replace bE := (HB.out.cell (World.block_lt_of_cell? w _ bE)).trans bE; replace cV := (HB.out.cell (World.block_lt_of_cell? w _ cV)).trans cV; replace p104 := eq_true p104; replace q104 := eq_true q104; (go_wp2_with (first | ((with_reducible refine gate_dst (N := 9) rfl ?_); (try (refine gate_guard (by rfl) ?_; dsimp only)); refine box_event ?hg (N := 9) ?hd (cs := #[.int .i64 0, .int .i64 0]) (t := 57) ?hr ?_; (case hd => rfl); (case hg => rfl); (case hr => exact zz9); intro gS hg w29 hbox hb; have n_ := zA7 (blk_below (g := aE) (o := .cells #[.int .i64 aD, .slice (some dE) aC.length aG] 25 (0, 0)) zz2 hb) (below_step zz0 hb) hbox (zz13 : w.heap.size ≤ gS) (zz13 : w.heap.size ≤ gS) (by rw [hg]; exact Nat.ne_of_lt (blk_lt (g := aE) (o := .cells #[.int .i64 aD, .slice (some dE) aC.length aG] 25 (0, 0)) zz2) : aE ≠ gS) (by rw [hg]; exact Nat.ne_of_gt (blk_lt (g := aE) (o := .cells #[.int .i64 aD, .slice (some dE) aC.length aG] 25 (0, 0)) zz2) : gS ≠ aE); clear aA HB; obtain ⟨aA, HB, gV, GW105, GE105, fQ, gY⟩ := n_; clear hb hbox hg; have AC := gY.out; have zF := fQ.out; have qK := zC20 gV; have qJ := zC21 gV; have qE := blk_frozen gV.out 0; have qD := blk_frozen gV.out 1))); go_roundg k2; (case measure => have := HJ3.out; have := HK2.out; omega); case rel => exact ⟨(wrap64 (gM + 1)), (wrap64 (cU + 1)), zz5, zz5, H', ⟨by have := HJ3.out; have := HK2.out; omega⟩, ⟨zz32⟩, ⟨zz55⟩⟩
end Go.Proofs.Ytnbljcgdgblgoaa.P
end

section
namespace Go.Proofs.Ytnbljcgdgblgoaa.P
open Go.RowKit Go.Proofs.YtnbljcgdgblgoaaW.PrintWords Go.Proofs.YtnbljcgdgblgoaaW.PrintLast Go.Proofs.YtnbljcgdgblgoaaW.PrintMore
attribute [local go_sem] max2_int min2_int max_two min_two max_three min_three max_four min_four
set_option linter.unusedVariables false
set_option linter.unusedSimpArgs false
def spec_Valence.l0 : Nat → Int → Int → List (S57) → Int → Int → Option (Int)
 | 0, _, _, _, _, _ => none
 | k + 1, x1, x5, iZ, pX, iY => if iY < pX then (if 0 ≤ iY then (if iY < (iZ.length : Int) then (if ((rd_T57 iZ iY).f0) = x1 then (spec_Valence.l0 k x1 (wrap64 (x5 + 1)) iZ pX (wrap64 (iY + 1))) else (if ((rd_T57 iZ iY).f1) = x1 then (spec_Valence.l0 k x1 (wrap64 (x5 + 1)) iZ pX (wrap64 (iY + 1))) else (spec_Valence.l0 k x1 x5 iZ pX (wrap64 (iY + 1))))) else (none)) else (none)) else (some x5)
def spec_Valence.f (k : Nat) (aD : Int) (aC : List (S57)) (a1 : Int) : Option (Int) := (spec_l02Vert.f aD aC a1).bind fun bA => (if bA = true then (spec_Valence.l0 k a1 0 aC (aC.length : Int) 0) else (some 0))
theorem spec_Valence.mono_l : ∀ k, (∀ y0 y1 y2 y3 y4, LeO (spec_Valence.l0 k y0 y1 y2 y3 y4) (spec_Valence.l0 (k + 1) y0 y1 y2 y3 y4))
 | 0 => fun _ _ _ _ _ r h => by simp [spec_Valence.l0] at h
 | k + 1 => by
  have ih0 := spec_Valence.mono_l k
  ·intro y0 y1 y2 y3 y4
   unfold spec_Valence.l0
   exact zm0
theorem spec_Valence.mono : ∀ a0 a1 a2 k, LeO (spec_Valence.f k a0 a1 a2) (spec_Valence.f (k + 1) a0 a1 a2) := by
 intro a0 a1 a2 k; have ih0 := spec_Valence.mono_l k; unfold spec_Valence.f; exact zm0
theorem spec_Valence.calls (k : Nat) (aD : Int) (aH : Option Addr) (aG : Nat) (aC : List (S57)) (a1 : Int) (r : Int) (w : World) (hr0_1 : Kd.C k57 w aH aC.length aC) (hc0_1 : aC.length ≤ aG) (h : spec_Valence.f k aD aC a1 = some r) :
  Calls Try.prog 73 #[.agg #[.int .i64 aD, .slice aH aC.length aG], .int .i64 a1] w fun e w' => e = .returned (.int .i64 r) ∧ Below w.heap.size w w' := by
 have hu25 := Try.underlying25; have hu57 := Try.underlying57; have bM := zK_ hr0_1; have bG := zK_ hc0_1; clear hr0_1 hc0_1; have HB := zK_ (Below.refl w.heap.size w); have H : ((spec_l02Vert.f aD aC a1).bind fun bA => (if bA = true then (spec_Valence.l0 k a1 0 aC (aC.length : Int) 0) else (some 0))) = some r := h; clear h; obtain ⟨bA, A30, H⟩ := zO_ H; (try dsimp only at H); have A3 := zK_ A30; clear A30; by_cases c4 : bA = true; rotate_left
 ·replace c4 := Bool.eq_false_iff.mpr c4; subst c4; rw [if_neg (show ¬ (false = true) by decide)] at H; obtain rfl := Option.some.inj H; go_enter Try.func73, Try.ntmps73; (go_wp2_with (first | ((with_reducible refine gate_dst (N := 2) rfl ?_); refine box_event ?hg (N := 2) ?hd (cs := #[.int .i64 aD, .slice aH aC.length aG]) (t := 25) ?hr ?_; (case hd => rfl); (case hg => rfl); (case hr => exact zz9); intro aE hg w23 hbox hb; have n_ := zA4 (below_step zz1 hb) hbox (zz10 : w.heap.size ≤ aE) (zz10 : w.heap.size ≤ aE); clear HB; obtain ⟨HB, aA, GW101, GE101⟩ := n_; clear hb hbox hg; have jG := zC20 aA; have jF := zC21 aA; have i8 := blk_frozen aA.out 0; have i7 := blk_frozen aA.out 1) | ((with_reducible refine gate_callee (f := 103) rfl ?_); refine goesL_ (some 10) rfl rfl Try.func103 (by kernel_rfl) rfl #[.agg #[.int .i64 aD, .slice aH aC.length aG], .int .i64 a1] rfl zz4 ?_; (with_reducible refine (spec_l02Vert.calls aD _ _ aC a1 false _ ?side1 ?side2 A3.out).mono ?_); (case side1 => exact zz6); (case side2 => exact bG.out); rintro e w25 ⟨rfl, hb⟩; refine ⟨_, rfl, ?_⟩; have n_ := zA2 (blk_below (g := aE) (o := .cells #[.int .i64 aD, .slice aH aC.length aG] 25 (0, 0)) zz2 hb) (below_step zz0 hb); clear aA HB; obtain ⟨aA, HB⟩ := n_; clear hb))); go_ret; exact ⟨zz7, zz0⟩
 subst c4; rw [if_pos rfl] at H; have H' := zK_ H; clear H; go_enter Try.func73, Try.ntmps73; (go_wp2_with (first | ((with_reducible refine gate_dst (N := 2) rfl ?_); refine box_event ?hg (N := 2) ?hd (cs := #[.int .i64 aD, .slice aH aC.length aG]) (t := 25) ?hr ?_; (case hd => rfl); (case hg => rfl); (case hr => exact zz9); intro aE hg w5 hbox hb; have n_ := zA4 (below_step zz1 hb) hbox (zz10 : w.heap.size ≤ aE) (zz10 : w.heap.size ≤ aE); clear HB; obtain ⟨HB, aA, GW101, GE101⟩ := n_; clear hb hbox hg; have gD := zC20 aA; have gC := zC21 aA; have f8 := blk_frozen aA.out 0; have f7 := blk_frozen aA.out 1) | ((with_reducible refine gate_callee (f := 103) rfl ?_); refine goesL_ (some 10) rfl rfl Try.func103 (by kernel_rfl) rfl #[.agg #[.int .i64 aD, .slice aH aC.length aG], .int .i64 a1] rfl zz4 ?_; (with_reducible refine (spec_l02Vert.calls aD _ _ aC a1 true _ ?side1 ?side2 A3.out).mono ?_); (case side1 => exact zz6); (case side2 => exact bG.out); rintro e w7 ⟨rfl, hb⟩; refine ⟨_, rfl, ?_⟩; have n_ := zA2 (blk_below (g := aE) (o := .cells #[.int .i64 aD, .slice aH aC.length aG] 25 (0, 0)) zz2 hb) (below_step zz0 hb); clear aA HB; obtain ⟨aA, HB⟩ := n_; clear hb; have gA := zC20 aA; have f9 := zC21 aA; have f4 := blk_frozen aA.out 0; have f3 := blk_frozen aA.out 1))); (go_loopg [5, 15] k (fun kq v5 v15 w' => ∃ (aN : Int) (dN : Int), v5 = .int .i64 aN ∧ v15 = .int .i64 dN ∧ Aside0 (spec_Valence.l0 kq a1 aN aC (aC.length : Int) dN = some r) ∧ Aside0 (kq ≤ k) ∧ Aside0 (w'.heap[aE]? = some (.cells #[.int .i64 aD, (.slice aH aC.length aG)] 25 (0, 0))) ∧ Aside0 (Below w.heap.size w w'))); case atStart => exact ⟨(0), (0), zz5, zz5, H', ⟨Nat.le_refl _⟩, ⟨zz2⟩, ⟨zz0⟩⟩
 case round =>
  clear H'; (try clear c1); (try clear p2); (try clear c4); (try clear c7); (try clear gD); (try clear gC); (try clear gA); (try clear f9); (try clear f8); (try clear f7); (try clear f4); (try clear f3); obtain ⟨aN, dN, rfl, rfl, HA, HK1, aA, HB⟩ := hrel
  cases gk with
  | zero => exact absurd HA.out (by simp [spec_Valence.l0])
  | succ k1 =>
   have H := HA.out; clear HA; simp only [spec_Valence.l0] at H; by_cases c9 : dN < (aC.length : Int); rotate_left
   ·rw [if_neg c9] at H; have fJ := decide_eq_false c9; clear c9; obtain rfl := Option.some.inj H; go_wp2; go_ret; exact ⟨zz7, zz0⟩
   rw [if_pos c9] at H; have fJ := decide_eq_true c9; clear c9; by_cases c10 : 0 ≤ dN; rotate_left
   ·rw [if_neg c10] at H; exact absurd H (by simp)
   rw [if_pos c10] at H; have gN := decide_eq_true c10; clear c10; by_cases c11 : dN < (aC.length : Int); rotate_left
   ·rw [if_neg c11] at H; exact absurd H (by simp)
   rw [if_pos c11] at H; have jY := decide_eq_true c11; clear c11; by_cases c12 : ((rd_T57 aC dN).f0) = a1
   ·rw [if_pos c12] at H; have jX : (((rd_T57 aC dN).f0) == a1) = true := beq_iff_eq.mpr c12; have n5 : (((rd_T57 aC dN).f0) != a1) = false := bne_eq_false_iff_eq.mpr c12; clear c12; have H' := zK_ H; clear H; have p103 : 0 ≤ (dN : Int) := of_decide_eq_true zz3; have q103 : dN < (aC.length : Int) := of_decide_eq_true zz3; obtain ⟨bD, e103, aQ, a6⟩ := at_T57 bM.out dN p103 q103; cases e103; replace aQ := (HB.out.cell (World.block_lt_of_cell? w _ aQ)).trans aQ; replace a6 := (HB.out.cell (World.block_lt_of_cell? w _ a6)).trans a6; replace p103 := eq_true p103; replace q103 := eq_true q103; (go_wp2_with (first | ((with_reducible refine gate_dst (N := 7) rfl ?_); refine box_event ?hg (N := 7) ?hd (cs := #[.int .i64 0, .int .i64 0]) (t := 57) ?hr ?_; (case hd => rfl); (case hg => rfl); (case hr => exact zz9); intro aW hg w13 hbox hb; have n_ := zA7 (blk_below (g := aE) (o := .cells #[.int .i64 aD, .slice (some bD) aC.length aG] 25 (0, 0)) zz2 hb) (below_step zz0 hb) hbox (zz13 : w.heap.size ≤ aW) (zz13 : w.heap.size ≤ aW) (zz16 : aE ≠ aW) (zz17 : aW ≠ aE); clear aA HB; obtain ⟨aA, HB, aY, GW104, GE104, bH, bI⟩ := n_; clear hb hbox hg; have qW := bI.out; have qT := bH.out; have gK := zC20 aY; have gJ := zC21 aY; have gI := blk_frozen aY.out 0; have gH := blk_frozen aY.out 1))); go_roundg k1; (case measure => have := HK1.out; omega); case rel => exact ⟨(wrap64 (aN + 1)), (wrap64 (dN + 1)), zz5, zz5, H', ⟨zz34⟩, ⟨zz12⟩, ⟨zz11⟩⟩
   rw [if_neg c12] at H; have jX : (((rd_T57 aC dN).f0) == a1) = false := beq_eq_false_iff_ne.mpr c12; have n5 : (((rd_T57 aC dN).f0) != a1) = true := bne_iff_ne.mpr c12; by_cases c16 : ((rd_T57 aC dN).f1) = a1; rotate_left
   ·rw [if_neg c16] at H; have iE : (((rd_T57 aC dN).f1) == a1) = false := beq_eq_false_iff_ne.mpr c16; have n4 : (((rd_T57 aC dN).f1) != a1) = true := bne_iff_ne.mpr c16; have H' := zK_ H; clear H; have p103 : 0 ≤ (dN : Int) := of_decide_eq_true zz3; have q103 : dN < (aC.length : Int) := of_decide_eq_true zz3; obtain ⟨bD, e103, aQ, a6⟩ := at_T57 bM.out dN p103 q103; cases e103; replace aQ := (HB.out.cell (World.block_lt_of_cell? w _ aQ)).trans aQ; replace a6 := (HB.out.cell (World.block_lt_of_cell? w _ a6)).trans a6; replace p103 := eq_true p103; replace q103 := eq_true q103; (go_wp2_with (first | ((with_reducible refine gate_dst (N := 7) rfl ?_); refine box_event ?hg (N := 7) ?hd (cs := #[.int .i64 0, .int .i64 0]) (t := 57) ?hr ?_; (case hd => rfl); (case hg => rfl); (case hr => exact zz9); intro aW hg w20 hbox hb; have n_ := zA7 (blk_below (g := aE) (o := .cells #[.int .i64 aD, .slice (some bD) aC.length aG] 25 (0, 0)) zz2 hb) (below_step zz0 hb) hbox (zz13 : w.heap.size ≤ aW) (zz13 : w.heap.size ≤ aW) (zz16 : aE ≠ aW) (zz17 : aW ≠ aE); clear aA HB; obtain ⟨aA, HB, aY, GW104, GE104, bH, bI⟩ := n_; clear hb hbox hg; have r7 := bI.out; have r3 := bH.out; have lR := zC20 aY; have lQ := zC21 aY; have lJ := blk_frozen aY.out 0; have lI := blk_frozen aY.out 1))); go_roundg k1; (case measure => have := HK1.out; omega); case rel => exact ⟨(aN), (wrap64 (dN + 1)), zz5, zz5, H', ⟨zz34⟩, ⟨zz12⟩, ⟨zz11⟩⟩
   rw [if_pos c16] at H; have iE : (((rd_T57 aC dN).f1) == a1) = true := beq_iff_eq.mpr c16; have n4 : (((rd_T57 aC dN).f1) != a1) = false := bne_eq_false_iff_eq.mpr c16; clear c16; have H' := zK_ H; clear H; have p103 : 0 ≤ (dN : Int) := of_decide_eq_true zz3; have q103 : dN < (aC.length : Int) := of_decide_eq_true zz3; obtain ⟨bD, e103, aQ, a6⟩ := at_T57 bM.out dN p103 q103; cases e103; replace aQ := (HB.out.cell (World.block_lt_of_cell? w _ aQ)).trans aQ; replace a6 := (HB.out.cell (World.block_lt_of_cell? w _ a6)).trans a6; replace p103 := eq_true p103; replace q103 := eq_true q103; (go_wp2_with (first | ((with_reducible refine gate_dst (N := 7) rfl ?_); refine box_event ?hg (N := 7) ?hd (cs := #[.int .i64 0, .int .i64 0]) (t := 57) ?hr ?_; (case hd => rfl); (case hg => rfl); (case hr => exact zz9); intro aW hg w17 hbox hb; have n_ := zA7 (blk_below (g := aE) (o := .cells #[.int .i64 aD, .slice (some bD) aC.length aG] 25 (0, 0)) zz2 hb) (below_step zz0 hb) hbox (zz13 : w.heap.size ≤ aW) (zz13 : w.heap.size ≤ aW) (zz16 : aE ≠ aW) (zz17 : aW ≠ aE); clear aA HB; obtain ⟨aA, HB, aY, GW104, GE104, bH, bI⟩ := n_; clear hb hbox hg; have qV := bI.out; have qS := bH.out; have jI := zC20 aY; have jH := zC21 aY; have jA := blk_frozen aY.out 0; have i9 := blk_frozen aY.out 1))); go_roundg k1; (case measure => have := HK1.out; omega); case rel => exact ⟨(wrap64 (aN + 1)), (wrap64 (dN + 1)), zz5, zz5, H', ⟨zz34⟩, ⟨zz12⟩, ⟨zz11⟩⟩
mutual
def spec_LaplacianOf.l0 : Nat → List (List Int) → Int → Int → List (S57) → Option ((List (List Int)))
 | 0, _, _, _, _ => none
 | k + 1, x3, x4, aM, aJ => if x4 < aM then (spec_LaplacianOf.l1 k x3 x4 (([] : List Int)) 0 aM aJ) else (some x3)
def spec_LaplacianOf.l1 : Nat → List (List Int) → Int → List Int → Int → Int → List (S57) → Option ((List (List Int)))
 | 0, _, _, _, _, _, _ => none
 | k + 1, x3, x4, x5, x6, aM, aJ => if x6 < aM then (if x4 = x6 then ((spec_Valence.f k aM aJ x4).bind fun oB => (if x5.length < 17592186044416 then (spec_LaplacianOf.l1 k x3 x4 (x5 ++ [oB]) (wrap64 (x6 + 1)) aM aJ) else (none))) else ((spec_Multiplicity.f k aM aJ x4 x6).bind fun n9 => (if x5.length < 17592186044416 then (spec_LaplacianOf.l1 k x3 x4 (x5 ++ [wrap64 (-n9)]) (wrap64 (x6 + 1)) aM aJ) else (none)))) else (if x3.length < 5864062014805 then (spec_LaplacianOf.l0 k (x3 ++ [x5]) (wrap64 (x4 + 1)) aM aJ) else (none))
end
def spec_LaplacianOf.f (k : Nat) (aD : Int) (aC : List (S57)) : Option ((List (List Int))) := (spec_GraphOk.f k aD aC).bind fun bA => (if bA = true then (spec_LaplacianOf.l0 k (([] : List (List Int))) 0 aD aC) else (some ([] : List (List Int))))
theorem spec_LaplacianOf.mono_l : ∀ k, (∀ y0 y1 y2 y3, LeO (spec_LaplacianOf.l0 k y0 y1 y2 y3) (spec_LaplacianOf.l0 (k + 1) y0 y1 y2 y3)) ∧ (∀ y0 y1 y2 y3 y4 y5, LeO (spec_LaplacianOf.l1 k y0 y1 y2 y3 y4 y5) (spec_LaplacianOf.l1 (k + 1) y0 y1 y2 y3 y4 y5))
 | 0 => ⟨fun _ _ _ _ r h => by simp [spec_LaplacianOf.l0] at h, fun _ _ _ _ _ _ r h => by simp [spec_LaplacianOf.l1] at h⟩
 | k + 1 => by
  obtain ⟨ih0, ih1⟩ := spec_LaplacianOf.mono_l k
  refine ⟨?_, ?_⟩
  ·intro y0 y1 y2 y3
   unfold spec_LaplacianOf.l0
   exact zm5
  ·intro y0 y1 y2 y3 y4 y5
   unfold spec_LaplacianOf.l1
   exact zm5
theorem spec_LaplacianOf.mono : ∀ a0 a1 k, LeO (spec_LaplacianOf.f k a0 a1) (spec_LaplacianOf.f (k + 1) a0 a1) := by
 intro a0 a1 k; obtain ⟨ih0, ih1⟩ := spec_LaplacianOf.mono_l k; unfold spec_LaplacianOf.f; exact zm5
theorem spec_LaplacianOf.calls (k : Nat) (aD : Int) (aH : Option Addr) (aG : Nat) (aC : List (S57)) (r : List (List Int)) (w : World) (hr0_1 : Kd.C k57 w aH aC.length aC) (hc0_1 : aC.length ≤ aG) (h : spec_LaplacianOf.f k aD aC = some r) :
  Calls Try.prog 137 #[.agg #[.int .i64 aD, .slice aH aC.length aG]] w fun e w' => ∃ v0_ : Value, e = .returned (v0_) ∧ Kd.S (Kd.slice 3 (Kd.int .i64)) 26 w' w.heap.size (fun _ => True) v0_ r ∧ Below w.heap.size w w' := by
 have hu25 := Try.underlying25; have bM := zK_ hr0_1; have bG := zK_ hc0_1; clear hr0_1 hc0_1; have HB := zK_ (Below.refl w.heap.size w); have H : ((spec_GraphOk.f k aD aC).bind fun bA => (if bA = true then (spec_LaplacianOf.l0 k (([] : List (List Int))) 0 aD aC) else (some ([] : List (List Int))))) = some r := h; clear h; obtain ⟨bA, A20, H⟩ := zO_ H; (try dsimp only at H); have A2 := zK_ A20; clear A20; by_cases c3 : bA = true; rotate_left
 ·replace c3 := Bool.eq_false_iff.mpr c3; subst c3; rw [if_neg (show ¬ (false = true) by decide)] at H; obtain rfl := Option.some.inj H; go_enter Try.func137, Try.ntmps137; (go_wp2_with (first | ((with_reducible refine gate_dst (N := 1) rfl ?_); refine box_event ?hg (N := 1) ?hd (cs := #[.int .i64 aD, .slice aH aC.length aG]) (t := 25) ?hr ?_; (case hd => rfl); (case hg => rfl); (case hr => exact zz9); intro aE hg w30 hbox hb; have n_ := zA4 (below_step zz1 hb) hbox (zz10 : w.heap.size ≤ aE) (zz10 : w.heap.size ≤ aE); clear HB; obtain ⟨HB, aA, GW101, GE101⟩ := n_; clear hb hbox hg; have qK := zC20 aA; have qJ := zC21 aA; have qE := blk_frozen aA.out 0; have qD := blk_frozen aA.out 1) | ((with_reducible refine gate_callee (f := 55) rfl ?_); refine goesL_ (some 8) rfl rfl Try.func55 (by kernel_rfl) rfl #[.agg #[.int .i64 aD, .slice aH aC.length aG]] rfl zz4 ?_; (with_reducible refine (spec_GraphOk.calls k aD _ _ aC false _ ?side1 ?side2 A2.out).mono ?_); (case side1 => exact zz6); (case side2 => exact bG.out); rintro e w32 ⟨rfl, hb⟩; refine ⟨_, rfl, ?_⟩; have n_ := zA2 (blk_below (g := aE) (o := .cells #[.int .i64 aD, .slice aH aC.length aG] 25 (0, 0)) zz2 hb) (below_step zz0 hb); clear aA HB; obtain ⟨aA, HB⟩ := n_; clear hb))); go_ret; exact ⟨_, zz7, zz52, zz0⟩
 subst c3; rw [if_pos rfl] at H; obtain ⟨fK, hy_⟩ : ∃ y_ : List (List Int), y_ = (([] : List (List Int))) := ⟨_, rfl⟩; (replace H : (spec_LaplacianOf.l0 k fK 0 aD aC) = some r := zzY); have jZ := zK_ hy_; clear hy_; have H' := zK_ H; clear H; go_enter Try.func137, Try.ntmps137; (go_wp2_with (first | ((with_reducible refine gate_dst (N := 1) rfl ?_); refine box_event ?hg (N := 1) ?hd (cs := #[.int .i64 aD, .slice aH aC.length aG]) (t := 25) ?hr ?_; (case hd => rfl); (case hg => rfl); (case hr => exact zz9); intro aE hg w4 hbox hb; have n_ := zA4 (below_step zz1 hb) hbox (zz10 : w.heap.size ≤ aE) (zz10 : w.heap.size ≤ aE); clear HB; obtain ⟨HB, aA, GW101, GE101⟩ := n_; clear hb hbox hg; have iC := zC20 aA; have iB := zC21 aA; have iA := blk_frozen aA.out 0; have hY := blk_frozen aA.out 1) | ((with_reducible refine gate_callee (f := 55) rfl ?_); refine goesL_ (some 8) rfl rfl Try.func55 (by kernel_rfl) rfl #[.agg #[.int .i64 aD, .slice aH aC.length aG]] rfl zz4 ?_; (with_reducible refine (spec_GraphOk.calls k aD _ _ aC true _ ?side1 ?side2 A2.out).mono ?_); (case side1 => exact zz6); (case side2 => exact bG.out); rintro e w6 ⟨rfl, hb⟩; refine ⟨_, rfl, ?_⟩; have n_ := zA2 (blk_below (g := aE) (o := .cells #[.int .i64 aD, .slice aH aC.length aG] 25 (0, 0)) zz2 hb) (below_step zz0 hb); clear aA HB; obtain ⟨aA, HB⟩ := n_; clear hb) | ((with_reducible refine gate_dst (N := 10) rfl ?_); refine Kd.S_lit (Kd.slice 3 (Kd.int .i64)) _ 26 ?hg (N := 10) ?hd (xs := ([] : List (List Int))) (inner := []) (ok := fun _ => True) (okp := fun _ => True) ?hr ?hp (fun _ hk => hk) trivial (Below.refl _ _) (Nat.le_refl _) (by simp) ?_; (case hd => rfl); (case hg => rfl); (case hr => exact zz9); (case hp => exact (Reps.none _ _)); intro v104 w7 ho8 hb hg_ hnew_; clear hg_ hnew_; (first | rw [← jZ.out] at ho8 | (simp only [Int.reduceToNat] at ho8; rw [← jZ.out] at ho8)); have n_ := zA3 (Kd.S_lower ho8 (below_size zz0)) (blk_below (g := aE) (o := .cells #[.int .i64 aD, .slice aH aC.length aG] 25 (0, 0)) zz2 hb) (below_step zz0 hb); clear aA HB; obtain ⟨eT, aA, HB⟩ := n_; clear hb ho8))); (go_loopg [3, 4] k (fun kq v3 v4 w' => ∃ (bT : List (List Int)) (aX : Int), v4 = .int .i64 aX ∧ Aside0 (spec_LaplacianOf.l0 kq bT aX aD aC = some r) ∧ Aside0 (kq ≤ k) ∧ Aside0 (Kd.S (Kd.slice 3 (Kd.int .i64)) 26 w' w.heap.size (fun _ => True) v3 bT) ∧ Aside0 (w'.heap[aE]? = some (.cells #[.int .i64 aD, (.slice aH aC.length aG)] 25 (0, 0))) ∧ Aside0 (Below w.heap.size w w'))); case atStart => exact ⟨(fK), (0), zz5, H', ⟨Nat.le_refl _⟩, ⟨by (with_reducible repeat (first | apply Kd.S_alloc | apply Kd.S_drewN | apply Kd.S_drew)); exact eT.out⟩, ⟨zz2⟩, ⟨zz0⟩⟩
 case round =>
  clear H'; (try clear c1); (try clear p2); (try clear c3); (try clear c5); (try clear iC); (try clear iB); (try clear iA); (try clear hY); obtain ⟨bT, aX, rfl, HA, HK1, bC, aA, HB⟩ := hrel
  cases gk with
  | zero => exact absurd HA.out (by simp [spec_LaplacianOf.l0])
  | succ k1 =>
   have H := HA.out; clear HA; simp only [spec_LaplacianOf.l0] at H; by_cases c9 : aX < aD; rotate_left
   ·rw [if_neg c9] at H; have fJ := decide_eq_false c9; clear c9; obtain rfl := Option.some.inj H; have lN := zC20 aA; have lM := zC21 aA; have lF := blk_frozen aA.out 0; have lE := blk_frozen aA.out 1; go_wp2; go_ret; exact ⟨_, zz7, by (with_reducible repeat (first | apply Kd.S_alloc | apply Kd.S_drewN | apply Kd.S_drew)); exact bC.out, zz0⟩
   rw [if_pos c9] at H; have fJ := decide_eq_true c9; clear c9; obtain ⟨lX, hy_⟩ : ∃ y_ : List Int, y_ = (([] : List Int)) := ⟨_, rfl⟩; (replace H : (spec_LaplacianOf.l1 k1 bT aX lX 0 aD aC) = some r := zzY); have k6 := zK_ hy_; clear hy_; have H' := zK_ H; clear H; have cN := zC20 aA; have cM := zC21 aA; have cK := blk_frozen aA.out 0; have cJ := blk_frozen aA.out 1; (go_wp2_with (first | ((with_reducible refine gate_dst (N := 17) rfl ?_); refine Kd.R_lit (Kd.int .i64) _ 3 ?hg (N := 17) ?hd (xs := ([] : List Int)) (inner := []) (ok := fun _ => True) (okp := fun _ => True) ?hr ?hp (fun _ hk => hk) trivial (Below.refl _ _) (Nat.le_refl _) (by simp) ?_; (case hd => rfl); (case hg => rfl); (case hr => exact zz9); (case hp => exact (Reps.none _ _)); intro v107 w11 ho12 hb hg_ hnew_; clear hg_ hnew_; (first | rw [← k6.out] at ho12 | (simp only [Int.reduceToNat] at ho12; rw [← k6.out] at ho12)); have n_ := zA4 (Kd.S_elder' zz44 (Kd.R_base ho12) hb) (Kd.R_lower ho12 (below_size zz0)) (blk_below (g := aE) (o := .cells #[.int .i64 aD, .slice aH aC.length aG] 25 (0, 0)) zz2 hb) (below_step zz0 hb); clear bC aA HB; obtain ⟨bC, iX, aA, HB⟩ := n_; clear hb ho12))); (go_loopg [5, 6] k1 (fun kq v5 v6 w' => ∃ (bN : List Int) (fB : Int), v6 = .int .i64 fB ∧ Aside0 (spec_LaplacianOf.l1 kq bT aX bN fB aD aC = some r) ∧ Aside0 (kq ≤ k1) ∧ Aside0 (Kd.S (Kd.slice 3 (Kd.int .i64)) 26 w' w.heap.size (fun k_ => some k_ ≠ (v5 : Value).ownBlock) u3 bT) ∧ Aside0 (Kd.R (Kd.int .i64) 3 w' w.heap.size (fun _ => True) v5 bN) ∧ Aside0 (w'.heap[aE]? = some (.cells #[.int .i64 aD, (.slice aH aC.length aG)] 25 (0, 0))) ∧ Aside0 (Below w.heap.size w w'))); case atStart => exact ⟨(lX), (0), zz5, H', ⟨Nat.le_refl _⟩, ⟨zz53⟩, ⟨by (with_reducible repeat (first | apply Kd.R_alloc | apply Kd.R_drewN | apply Kd.R_drew)); exact iX.out⟩, ⟨zz2⟩, ⟨zz0⟩⟩
   case round =>
    clear H'; (try clear c1); (try clear p2); (try clear c3); (try clear c5); (try clear c9); (try clear fJ); (try clear cN); (try clear cM); (try clear iC); (try clear iB); (try clear cK); (try clear cJ); (try clear iA); (try clear hY); (try clear p2); obtain ⟨bN, fB, rfl, HA, HK2, bC, bY, aA, HB⟩ := hrel
    cases gk with
    | zero => exact absurd HA.out (by simp [spec_LaplacianOf.l1])
    | succ k2 =>
     have H := HA.out; clear HA; simp only [spec_LaplacianOf.l1] at H; by_cases c13 : fB < aD; rotate_left
     ·rw [if_neg c13] at H; have iW := decide_eq_false c13; clear c13; by_cases c25 : bT.length < 5864062014805; rotate_left
      ·rw [if_neg c25] at H; exact absurd H (by simp)
      rw [if_pos c25] at H; have mO := zK_ c25; clear c25; obtain ⟨bZ, hy_⟩ : ∃ y_ : List (List Int), y_ = (bT ++ [bN]) := ⟨_, rfl⟩; (replace H : (spec_LaplacianOf.l0 k2 bZ (wrap64 (aX + 1)) aD aC) = some r := zzY); have fZ := zK_ hy_; clear hy_; have H' := zK_ H; clear H; have iP := zC20 aA; have iO := zC21 aA; have iL := blk_frozen aA.out 0; have iK := blk_frozen aA.out 1; obtain ⟨Ao28, co28, yG⟩ := Kd.R_slice bY.out; subst yG; (go_wp2_with (first | ((with_reducible refine gate_builtin (b := .append) (xs := #[.tmp 41, .tmp 43]) rfl ?_); at_builtin; refine Kd.S_append (Kd.slice 3 (Kd.int .i64)) (w0 := w) w.heap.size rfl (.tmp 41) (.tmp 43) 34 26 (.slice none 0 0) 24 rfl Try.underlying34 info26 rfl (by decide) (by omega) u3 bT bN [.slice Ao28 bN.length co28] (fun _ => True) (fun k_ => some k_ = (.slice Ao28 bN.length co28 : Value).ownBlock) rfl rfl ?aP (fun k_ hk_ => ((Kd.R_mono (ok' := fun k_ => ((fun _ => True)) k_ ∧ some k_ ≠ (u3 : Value).ownBlock) (Kd.R_apart' (bY.out) (Kd.S_typed bC.out) (by decide)) (fun k_ hk => ⟨trivial, hk.2⟩))).1 k_ hk_.symm) ?aF ?aO ?aB ?aS ?aL ?_; (case aP => exact Kd.M_row (Kd.R_mono (Kd.R_tight rfl (Kd.R_mono (ok' := fun k_ => ((fun _ => True)) k_ ∧ some k_ ≠ (u3 : Value).ownBlock) (Kd.R_apart' (bY.out) (Kd.S_typed bC.out) (by decide)) (fun k_ hk => ⟨trivial, hk.2⟩))) (fun _ h_ => h_))); (case aB => exact zz0); (case aF => exact (fun _ _ => trivial)); (case aO => exact (by (with_reducible repeat (first | apply Kd.S_alloc | apply Kd.S_drewN | apply Kd.S_drew)); exact Kd.S_mono bC.out (fun k_ hk => ⟨trivial, fun e_ => hk e_⟩))); (case aS => exact (below_size zz0)); (case aL => have := mO.out; omega); intro v110 w27 ho hb hg hat; rw [← fZ.out] at ho; have n_ := zA3 (blk_grown (g := aE) (o := .cells #[.int .i64 aD, .slice aH aC.length aG] 25 (0, 0)) zz2 hg (Kd.S_ne bC.out aA.out (by decide))) hb ho; clear aA HB bC bY; obtain ⟨aA, HB, bW⟩ := n_; clear ho hb hg hat))); go_roundg k2; (case measure => have := HK1.out; have := HK2.out; omega); case rel => exact ⟨(bZ), (wrap64 (aX + 1)), zz5, H', ⟨zz50⟩, ⟨by (with_reducible repeat (first | apply Kd.S_alloc | apply Kd.S_drewN | apply Kd.S_drew)); exact bW.out⟩, ⟨zz2⟩, ⟨zz0⟩⟩
     rw [if_pos c13] at H; have iW := decide_eq_true c13; clear c13; by_cases c14 : aX = fB; rotate_left
     ·rw [if_neg c14] at H; have gE : (aX == fB) = false := beq_eq_false_iff_ne.mpr c14; have pH : (aX != fB) = true := bne_iff_ne.mpr c14; obtain ⟨n9, A200, H⟩ := zO_ H; (try dsimp only at H); have A20 := zK_ A200; clear A200; by_cases c21 : bN.length < 17592186044416; rotate_left
      ·rw [if_neg c21] at H; exact absurd H (by simp)
      rw [if_pos c21] at H; have tP := zK_ c21; clear c21; obtain ⟨rS, hy_⟩ : ∃ y_ : List Int, y_ = (bN ++ [wrap64 (-n9)]) := ⟨_, rfl⟩; (replace H : (spec_LaplacianOf.l1 k2 bT aX rS (wrap64 (fB + 1)) aD aC) = some r := zzY); have tI := zK_ hy_; clear hy_; have H' := zK_ H; clear H; have lR := zC20 aA; have lQ := zC21 aA; have lJ := blk_frozen aA.out 0; have lI := blk_frozen aA.out 1; (go_wp2_with (first | ((with_reducible refine gate_callee (f := 104) rfl ?_); refine goesL_ (some 37) rfl rfl Try.func104 (by kernel_rfl) rfl #[.agg #[.int .i64 aD, .slice aH aC.length aG], .int .i64 aX, .int .i64 fB] rfl zz4 ?_; (with_reducible refine (spec_Multiplicity.calls k2 aD _ _ aC aX fB n9 _ ?side1 ?side2 A20.out).mono ?_); (case side1 => exact zz6); (case side2 => exact bG.out); rintro e w23 ⟨rfl, hb⟩; refine ⟨_, rfl, ?_⟩; have n_ := zA4 (Kd.S_below zz44 hb) (Kd.R_below zz23 hb) (blk_below (g := aE) (o := .cells #[.int .i64 aD, .slice aH aC.length aG] 25 (0, 0)) zz2 hb) (below_step zz0 hb); clear bC bY aA HB; obtain ⟨bC, bY, aA, HB⟩ := n_; clear hb) | ((with_reducible refine gate_builtin (b := .append) (xs := #[.tmp 33, .tmp 39]) rfl ?_); at_builtin; refine Kd.R_append (Kd.int .i64) (w0 := w) w.heap.size rfl (.tmp 33) (.tmp 39) 26 3 (.int .i64 0) 8 rfl Try.underlying26 info3 rfl (by decide) (by omega) u5 bN (wrap64 (-n9)) [.int .i64 (wrap64 (-n9))] (fun _ => True) (fun _ => False) rfl rfl ?aP (fun _ hk => hk.elim) ?aF ?aO ?aB ?aS ?aL ?_; (case aP => exact rfl); (case aB => exact zz0); (case aF => exact (fun _ _ => trivial)); (case aO => exact zz23); (case aS => exact (below_size zz0)); (case aL => have := tP.out; omega); intro v118 w24 ho hb hg hat; rw [← tI.out] at ho; have n_ := zA4 (Kd.S_after (ok := (fun _ => True)) zz51 hg hat) (blk_grown (g := aE) (o := .cells #[.int .i64 aD, .slice aH aC.length aG] 25 (0, 0)) zz2 hg (Kd.R_ne bY.out aA.out (by decide))) hb ho; clear bC aA HB bY; obtain ⟨bC, aA, HB, tU⟩ := n_; clear ho hb hg hat))); go_roundg k2; (case measure => have := HK1.out; have := HK2.out; omega); case rel => exact ⟨(rS), (wrap64 (fB + 1)), zz5, H', ⟨zz50⟩, ⟨zz53⟩, ⟨by (with_reducible repeat (first | apply Kd.R_alloc | apply Kd.R_drewN | apply Kd.R_drew)); exact tU.out⟩, ⟨zz2⟩, ⟨zz0⟩⟩
     rw [if_pos c14] at H; have gE : (aX == fB) = true := beq_iff_eq.mpr c14; have pH : (aX != fB) = false := bne_eq_false_iff_eq.mpr c14; clear c14; obtain ⟨oB, A150, H⟩ := zO_ H; (try dsimp only at H); have A15 := zK_ A150; clear A150; by_cases c16 : bN.length < 17592186044416; rotate_left
     ·rw [if_neg c16] at H; exact absurd H (by simp)
     rw [if_pos c16] at H; have pQ := zK_ c16; clear c16; obtain ⟨n8, hy_⟩ : ∃ y_ : List Int, y_ = (bN ++ [oB]) := ⟨_, rfl⟩; (replace H : (spec_LaplacianOf.l1 k2 bT aX n8 (wrap64 (fB + 1)) aD aC) = some r := zzY); have pM := zK_ hy_; clear hy_; have H' := zK_ H; clear H; have iR := zC20 aA; have iQ := zC21 aA; have iN := blk_frozen aA.out 0; have iM := blk_frozen aA.out 1; (go_wp2_with (first | ((with_reducible refine gate_callee (f := 73) rfl ?_); refine goesL_ (some 30) rfl rfl Try.func73 (by kernel_rfl) rfl #[.agg #[.int .i64 aD, .slice aH aC.length aG], .int .i64 aX] rfl zz4 ?_; (with_reducible refine (spec_Valence.calls k2 aD _ _ aC aX oB _ ?side1 ?side2 A15.out).mono ?_); (case side1 => exact zz6); (case side2 => exact bG.out); rintro e w18 ⟨rfl, hb⟩; refine ⟨_, rfl, ?_⟩; have n_ := zA4 (Kd.S_below zz44 hb) (Kd.R_below zz23 hb) (blk_below (g := aE) (o := .cells #[.int .i64 aD, .slice aH aC.length aG] 25 (0, 0)) zz2 hb) (below_step zz0 hb); clear bC bY aA HB; obtain ⟨bC, bY, aA, HB⟩ := n_; clear hb) | ((with_reducible refine gate_builtin (b := .append) (xs := #[.tmp 27, .tmp 31]) rfl ?_); at_builtin; refine Kd.R_append (Kd.int .i64) (w0 := w) w.heap.size rfl (.tmp 27) (.tmp 31) 26 3 (.int .i64 0) 8 rfl Try.underlying26 info3 rfl (by decide) (by omega) u5 bN oB [.int .i64 oB] (fun _ => True) (fun _ => False) rfl rfl ?aP (fun _ hk => hk.elim) ?aF ?aO ?aB ?aS ?aL ?_; (case aP => exact rfl); (case aB => exact zz0); (case aF => exact (fun _ _ => trivial)); (case aO => exact zz23); (case aS => exact (below_size zz0)); (case aL => have := pQ.out; omega); intro v114 w19 ho hb hg hat; rw [← pM.out] at ho; have n_ := zA4 (Kd.S_after (ok := (fun _ => True)) zz51 hg hat) (blk_grown (g := aE) (o := .cells #[.int .i64 aD, .slice aH aC.length aG] 25 (0, 0)) zz2 hg (Kd.R_ne bY.out aA.out (by decide))) hb ho; clear bC aA HB bY; obtain ⟨bC, aA, HB, j1⟩ := n_; clear ho hb hg hat))); go_roundg k2; (case measure => have := HK1.out; have := HK2.out; omega); case rel => exact ⟨(n8), (wrap64 (fB + 1)), zz5, H', ⟨zz50⟩, ⟨zz53⟩, ⟨by (with_reducible repeat (first | apply Kd.R_alloc | apply Kd.R_drewN | apply Kd.R_drew)); exact j1.out⟩, ⟨zz2⟩, ⟨zz0⟩⟩
end Go.Proofs.Ytnbljcgdgblgoaa.P
end

section
namespace Go.Proofs.Ytnbljcgdgblgoaa.P
open Go.RowKit Go.Proofs.YtnbljcgdgblgoaaW.PrintWords Go.Proofs.YtnbljcgdgblgoaaW.PrintLast Go.Proofs.YtnbljcgdgblgoaaW.PrintMore
attribute [local go_sem] max2_int min2_int max_two min_two max_three min_three max_four min_four
set_option linter.unusedVariables false
set_option linter.unusedSimpArgs false
def spec_ReducedLaplacian.f (k : Nat) (aD : Int) (aC : List S57) (a1 : Int) : Option (List (List Int)) := (spec_GraphOk.f k aD aC).bind fun t => if t = true then (spec_l01In.f a1 0 (wrap64 (aD - 1))).bind fun u => if u = true then (spec_LaplacianOf.f k aD aC).bind fun L => if ∀ r ∈ L, r.length ≤ 1000000 then Cf.redF a1 L else none else some [] else some []
theorem spec_ReducedLaplacian.mono : ∀ a0 a1 a2 k, LeO (spec_ReducedLaplacian.f k a0 a1 a2) (spec_ReducedLaplacian.f (k + 1) a0 a1 a2) := by
 intro a0 a1 a2 k; unfold spec_ReducedLaplacian.f; exact LeO.bind (spec_GraphOk.mono _ _ k) fun t => LeO.ite (LeO.bind (LeO.refl _) fun u => LeO.ite (LeO.bind (spec_LaplacianOf.mono _ _ k) fun _ => LeO.refl _) (LeO.refl _)) (LeO.refl _)
def spec_ReducedLaplacian.T8 : Bool × List (List Nat × List Nat) := (true, [([], []), ([], []), ([], []), ([], []), ([2, 3], [2, 3]), ([1, 4], [1, 4]), ([], []), ([], []), ([7], [7]), ([6, 8], [6, 8]), ([5, 9, 5], [5, 9]), ([10], [10]), ([0, 11, 10], [0, 11]), ([12, 12, 0, 1, 2, 3, 4, 5, 6, 7, 8, 9, 10, 11, 12], [0, 12])])
def spec_ReducedLaplacian.B8 : List Nat := [0, 0, 0, 0, 12, 30, 0, 0, 128, 448, 1022, 2046, 4095, 8191]
theorem spec_ReducedLaplacian.tab8 : rtab .any (opsOf Try.f107 8) = spec_ReducedLaplacian.T8 := by kernel_rfl
theorem spec_ReducedLaplacian.bits8 : waitsOk spec_ReducedLaplacian.T8.2 spec_ReducedLaplacian.B8 = true := by kernel_rfl
theorem spec_ReducedLaplacian.calls (k : Nat) (aD : Int) (aH : Option Addr) (aG : Nat) (aC : List S57) (a1 : Int) (r : List (List Int)) (w : World) (hr0_1 : Kd.C k57 w aH aC.length aC) (hc0_1 : aC.length ≤ aG) (h : spec_ReducedLaplacian.f k aD aC a1 = some r) :
  Calls Try.prog 107 #[.agg #[.int .i64 aD, .slice aH aC.length aG], .int .i64 a1] w fun e w' => ∃ v0_ : Value, e = .returned (v0_) ∧ Kd.S (Kd.slice 3 (Kd.int .i64)) 26 w' w.heap.size (fun _ => True) v0_ r ∧ Below w.heap.size w w' := by
 have hu30 := Try.underlying25; have HR := zK_ hr0_1; have HC := zK_ hc0_1; clear hr0_1 hc0_1; have H : ((spec_GraphOk.f k aD aC).bind fun t => if t = true then (spec_l01In.f a1 0 (wrap64 (aD - 1))).bind fun u => if u = true then (spec_LaplacianOf.f k aD aC).bind fun L => if ∀ r ∈ L, r.length ≤ 1000000 then Cf.redF a1 L else none else some [] else some []) = some r := h; clear h; obtain ⟨t, hv, H⟩ := zO_ H; have HV := zK_ hv; clear hv; have HB := zK_ (below_alloc (Below.refl w.heap.size w) (.cells #[.int .i64 aD, .slice aH aC.length aG] 25)); have BK := zK_ (heap_alloc_new w (.cells #[.int .i64 aD, .slice aH aC.length aG] 25))
 cases t with
 | false =>
  obtain rfl := Option.some.inj H; clear H; go_enter Try.func107, Try.ntmps107; (go_wp2_with fail); refine (spec_GraphOk.calls k _ _ _ aC false _ (Kd.C_below HR.out HB.out) HC.out HV.out).mono ?_; rintro e w1 ⟨rfl, hb⟩; have HB1 := zK_ (below_step HB.out hb); clear hb; go_wp2; go_ret; exact ⟨_, rfl, Kd.S_nil _ _ _ _ _, HB1.out⟩
 | true =>
  rw [if_pos rfl] at H; obtain ⟨u, hu, H⟩ := zO_ H; have HU := zK_ hu; clear hu
  cases u with
  | false =>
   obtain rfl := Option.some.inj H; clear H; go_enter Try.func107, Try.ntmps107; (go_wp2_with fail); refine (spec_GraphOk.calls k _ _ _ aC true _ (Kd.C_below HR.out HB.out) HC.out HV.out).mono ?_; rintro e w1 ⟨rfl, hb⟩; have HB1 := zK_ (below_step HB.out hb); have oC := zK_ (blk_below BK.out hb); clear hb; have hz0 : w1.cell? ⟨w.heap.size, 0, none⟩ = some (.int .i64 aD) := (blk_cell oC.out 0).trans rfl; have hz1 : w1.cell? ⟨w.heap.size, 1, none⟩ = some (.slice aH aC.length aG) := (blk_cell oC.out 1).trans rfl; (go_wp2_with fail); refine (spec_l01In.calls _ _ _ false _ HU.out).mono ?_; rintro e w1a ⟨rfl, hd⟩; have HB1a := zK_ (below_step HB1.out hd.below); clear hd; go_wp2; go_ret; exact ⟨_, rfl, Kd.S_nil _ _ _ _ _, HB1a.out⟩
  | true =>
   rw [if_pos rfl] at H; obtain ⟨L, hL, H⟩ := zO_ H; have HL := zK_ hL; clear hL; (split at H); (case isFalse => cases H); rename_i hlen; have HLEN := zK_ hlen; clear hlen; unfold Cf.redF at H; split at H
   ·rename_i hq; obtain rfl := Option.some.inj H; clear H; obtain ⟨hq0, hq1, hq2, hq3⟩ := hq; obtain ⟨q, rfl⟩ := Int.eq_ofNat_of_zero_le hq0; rw [Int.toNat_natCast]; have HQ := zK_ (show q ≤ 1000000 ∧ L.length ≤ 1000000 ∧ ∀ r ∈ L, q < r.length from ⟨by omega, hq2, fun r hr => by have := hq3 r hr; omega⟩); clear hq0 hq1 hq2 hq3; go_enter Try.func107, Try.ntmps107; (go_wp2_with fail); refine (spec_GraphOk.calls k _ _ _ aC true _ (Kd.C_below HR.out HB.out) HC.out HV.out).mono ?_; rintro e w1 ⟨rfl, hb⟩; have HB1 := zK_ (below_step HB.out hb); have oC := zK_ (blk_below BK.out hb); clear hb; have hz0 : w1.cell? ⟨w.heap.size, 0, none⟩ = some (.int .i64 aD) := (blk_cell oC.out 0).trans rfl; have hz1 : w1.cell? ⟨w.heap.size, 1, none⟩ = some (.slice aH aC.length aG) := (blk_cell oC.out 1).trans rfl; (go_wp2_with fail); refine (spec_l01In.calls _ _ _ true _ HU.out).mono ?_; rintro e w1a ⟨rfl, hd⟩; have HB1a := zK_ (below_step HB1.out hd.below); have BK1a := zK_ (blk_below oC.out hd.below); clear hd hz0 hz1; have hz0 : w1a.cell? ⟨w.heap.size, 0, none⟩ = some (.int .i64 aD) := (blk_cell BK1a.out 0).trans rfl; have hz1 : w1a.cell? ⟨w.heap.size, 1, none⟩ = some (.slice aH aC.length aG) := (blk_cell BK1a.out 1).trans rfl; (go_wp2_with (first | ((with_reducible refine gate_dst (N := 19) rfl ?_); refine Kd.S_lit (w0 := w) (Kd.slice 3 (Kd.int .i64)) w.heap.size 26 ?hg (N := 19) ?hd (xs := ([] : List (List Int))) (inner := []) (ok := fun _ => True) (okp := fun _ => True) ?hr ?hp (fun _ hk => hk) trivial HB1a.out (below_size HB1a.out) (by simp) ?_; (case hd => rfl); (case hg => rfl); (case hr => exact zz9); (case hp => exact (Reps.none _ _)); intro v19 w1b ho hb hg_ hnew_; have HS0 := zK_ ho; have HB1b := zK_ hb; have BK1b := zK_ (blk_grown BK1a.out hg_ (by simp)); clear ho hb hg_ hnew_; have hy0 : w1b.cell? ⟨w.heap.size, 0, none⟩ = some (.int .i64 aD) := (blk_cell BK1b.out 0).trans rfl; have hy1 : w1b.cell? ⟨w.heap.size, 1, none⟩ = some (.slice aH aC.length aG) := (blk_cell BK1b.out 1).trans rfl))); refine (spec_LaplacianOf.calls k _ _ _ aC L _ (Kd.C_below HR.out HB1b.out) HC.out HL.out).mono ?_; rintro e w2 ⟨vL, rfl, hS, hb⟩; have HB2 := zK_ (below_step HB1b.out hb); obtain ⟨AL, cL, eL, hcL, _⟩ := Kd.S_reads hS; subst eL; have HSL := zK_ (Kd.S_mono (Kd.S_bound hS) (ok' := fun k => w1b.heap.size ≤ k ∧ k < w2.heap.size) fun k hk => ⟨hk.2.1, hk.2.2.1⟩); have HSI := zK_ (Kd.S_mono (Kd.S_bound (Kd.S_below (Kd.S_bound HS0.out) hb)) (ok' := fun k => k < w1b.heap.size ∨ w2.heap.size ≤ k) fun k hk => .inl hk.1.2.2.1); have HW := zK_ hb.size; have hLl : L.length ≤ cL := hcL; clear hS hb hcL hz0 hz1 hy0 hy1 HS0; go_wp2; (go_loopw [5, 23] (fun v5 v23 wr => ∃ i : Nat, v23 = .int .i64 (i : Int) ∧ Aside0 (i ≤ L.length ∧ w2.heap.size ≤ wr.heap.size) ∧ Aside0 (Below w.heap.size w wr) ∧ Aside0 (Kd.S (Kd.slice 3 (Kd.int .i64)) 26 wr w1b.heap.size (fun k => w1b.heap.size ≤ k ∧ k < w2.heap.size) (.slice AL L.length cL) L) ∧ Aside0 (Kd.S (Kd.slice 3 (Kd.int .i64)) 26 wr w.heap.size (fun k => k < w1b.heap.size ∨ w2.heap.size ≤ k) v5 (Cf.keepF q L i))) (fun _ v _ => L.length - (intOf v).toNat)); case atStart => exact ⟨0, rfl, ⟨Nat.zero_le _, Nat.le_refl _⟩, HB2, HSL, HSI⟩
    case round =>
     obtain ⟨i, rfl, HI, HBr, HLr, HS⟩ := hrel; by_cases hlt : i < L.length; rotate_left
     ·have c0 : decide ((i : Int) < (L.length : Int)) = false := decide_eq_false (by omega); (have hi : i = L.length := by have := HI.out; omega); subst hi; clear hlt; go_wp2; go_ret; exact ⟨_, rfl, Kd.S_mono HS.out (fun _ _ => trivial), HBr.out⟩
     have c0 : decide ((i : Int) < (L.length : Int)) = true := decide_eq_true (by omega); obtain ⟨x, hxi⟩ : ∃ x, L[i]? = some x := ⟨_, List.getElem?_eq_getElem hlt⟩
     have hx : rd_L3 L (i : Int) = x := by
      unfold rd_L3; rw [Int.toNat_natCast, List.getD_eq_getElem?_getD, hxi]; rfl
     (have p1 : (0 : Int) ≤ (i : Int) := by omega); (have p2 : (i : Int) < (L.length : Int) := by omega); obtain ⟨gL, Ai, ci, eg, hcell, hci, hCi⟩ := at_L3 (Kd.S_reads' HLr.out).2.2 (i : Int) p1 p2; subst eg; rw [hx] at hcell hci hCi; rw [Int.toNat_natCast] at hcell; have HRi := zK_ hCi; have HCi := zK_ hci; (have hib : (i : Int) ≤ 1000000 := by have := HQ.out.2.1; omega); (have hq0 : (0 : Int) ≤ (q : Int) := by omega); (have hqb : (q : Int) ≤ 1000000 := by have := HQ.out.1; omega); have HLT := zK_ hlt; have HXI := zK_ hxi; clear hxi hlt hCi hci hx; by_cases hq : i = q
     ·(have c1 : ((i : Int) == (q : Int)) = true := by simp [hq]); (have c2 : ((i : Int) != (q : Int)) = false := by simp [hq]); have HQI := zK_ hq; clear hq; go_wp2; go_roundw
      case rel =>
       refine ⟨i + 1, by go_num, ⟨by have := HLT.out; omega, HI.out.2⟩, HBr, HLr, ⟨?_⟩⟩; have e : Cf.keepF q L (i + 1) = Cf.keepF q L i := if_pos HQI.out; rw [e]; exact HS.out
      case measure =>
       have := HLT.out; (simp [intOf]); omega
     (have c1 : ((i : Int) == (q : Int)) = false := by simp; omega); (have c2 : ((i : Int) != (q : Int)) = true := by simp; omega); have HQI := zK_ hq; clear hq; have hql : q < x.length := HQ.out.2.2 x (List.mem_of_getElem? HXI.out); have HXL := zK_ (show q < x.length ∧ x.length ≤ 1000000 from ⟨hql, HLEN.out x (List.mem_of_getElem? HXI.out)⟩); have HKL := zK_ (Cf.keepF_len q L i); (try go_wp2); have HBd := zK_ (below_drew1 HBr.out); have HId := zK_ (show w2.heap.size ≤ wr.drew.heap.size from HI.out.2); have HLd := zK_ (Kd.S_drew HLr.out); have HSd := zK_ (Kd.S_drew HS.out); have HRd := zK_ (Kd.C_below HRi.out (below_drew (Below.refl _ _))); clear HBr HS HRi HLr; obtain ⟨it, hit, _, hszt, _⟩ := info_parts info3; obtain ⟨hcutt, hAt, hCt⟩ := print_take_of (P := Try.prog) (Value.int .i64) 0 26 3 .i64 Try.underlying26 hit hszt Ai ci x (q : Int) hq0 (by omega) HCi.out; obtain ⟨ji, hji⟩ : ∃ j : Int, wrap64 ((q : Int) + 1) = j := ⟨_, rfl⟩; have hjiw : IntKind.i64.wrap ((q : Int) + 1) = ji := (i64_w _).trans hji; have HJ := zK_ (show ji = ((q : Int) + 1) from by rw [← hji]; unfold wrap64; omega); obtain ⟨Ae, hcute, hAe, hCe⟩ := print_drop_of (P := Try.prog) (Value.int .i64) 0 26 3 .i64 Try.underlying26 hit hszt Ai ci x ji (by have := HJ.out; omega) (by have := HJ.out; omega) HCi.out; rw [Int.toNat_natCast] at hcutt hAt hCt; rw [show ji.toNat = q + 1 from by have := HJ.out; omega] at hcute hAe hCe; clear hit hszt hCt hCe; refine start_ (n := 14) (S := fun w' => True) (ds := []) (zM 14 0) (by kernel_rfl) rfl rfl trivial (fun hHeld => ?_); refine with_tabW spec_ReducedLaplacian.tab8 spec_ReducedLaplacian.bits8 (fun HT_ HW_ => ?_); generalize wr.drew = wd at HBd HSd HRd HId HLd hHeld ⊢; have HRt := zK_ (Kd.C_of_reads (h1 := fun _ => rfl) (hAt _ (Kd.reads_of_C HRd.out))); have HRe := zK_ (Kd.C_of_reads (h1 := fun _ => rfl) (hAe _ (Kd.reads_of_C HRd.out))); clear hAt hAe; refine zQ 0 31 (zM 14 1) ?_
     refine zQ 2 33 (zM 14 5) ?_
     refine zQ 3 34 (zM 14 13) ?_
     refine zQ 4 35 (zM 14 29) ?_
     refine zQ 6 37 (zM 14 93) ?_
     refine zQ 7 38 (zM 14 221) ?_
     refine zQ 8 39 (zM 14 477) ?_
     refine zQ 9 40 (zM 14 989) ?_
     refine one_ (i := 1) (N := some 32) (zM 14 991) rfl rfl (one_of HT_.out (by kernel_rfl)) (by decide) (fun K hK => ?_); refine Kd.R_lit_step (w0 := wd) (Kd.int .i64) wd.heap.size 3 ?hg (N := 32) ?hd (xs := ([] : List Int)) (inner := []) (ok := fun _ => True) (okp := fun _ => True) ?hr ?hp (fun _ hk => hk) trivial (Below.refl _ _) (Nat.le_refl _) (by simp) ?_; (case hd => rfl); (case hg => rfl); (case hr => exact zz9); (case hp => exact (Reps.none _ _)); intro vA wA hoA hbA hg_ hnew_; clear hg_ hnew_; have HOA := zK_ hoA; have HBA := zK_ hbA; clear hoA hbA; refine hK.out _ _ trivial (fun hHeld => ?_); clear hK K; refine norm_ (a' := ?_) ?_ ?_; rotate_left
     ·show Act.put _ (some 32) _ = _; exact zzS
     refine one_ (i := 5) (N := some 36) (zM 14 1023) rfl rfl (one_of HT_.out (by kernel_rfl)) (by decide) (fun K hK => ?_); refine Kd.R_append_rows_step (Kd.int .i64) (w0 := wd) wd.heap.size (by rfl) (.tmp 32) (.tmp 35) 26 3 (.int .i64 0) 8 rfl Try.underlying26 info3 rfl (by decide) (by omega) vA ([] : List Int) (x.take q) _ _ _ (fun _ => True) (fun _ => False) rfl rfl HOA.out (by have h_ := Kd.C_below HRt.out HBA.out; rw [List.length_take] at h_; exact h_) (fun _ _ h => h) (fun _ h => h.elim) (fun _ _ => trivial) HBA.out (below_size HBA.out) (by have := HXL.out; simp only [List.length_nil, List.length_take]; omega) ?_; intro vB wB hoB hbB hg_ hat_; clear hg_ hat_; have HOB := zK_ hoB; have HBB := zK_ hbB; clear hoB hbB HOA HBA; refine hK.out _ _ trivial (fun hHeld => ?_); clear hK K; refine norm_ (a' := ?_) ?_ ?_; rotate_left
     ·show Act.put _ (some 36) _ = _; exact zzS
     refine one_ (i := 10) (N := some 41) (zM 14 2047) rfl rfl (one_of HT_.out (by kernel_rfl)) (by decide) (fun K hK => ?_); refine Kd.R_append_rows_step (Kd.int .i64) (w0 := wd) wd.heap.size (by rfl) (.tmp 36) (.tmp 40) 26 3 (.int .i64 0) 8 rfl Try.underlying26 info3 rfl (by decide) (by omega) vB ([] ++ x.take q) (x.drop (q + 1)) _ _ _ (fun _ => True) (fun _ => False) rfl rfl HOB.out (by have h_ := Kd.C_below HRe.out HBB.out; rw [List.length_drop] at h_; exact h_) (fun _ _ h => h) (fun _ h => h.elim) (fun _ _ => trivial) HBB.out (below_size HBB.out) (by have := HXL.out; simp only [List.nil_append, List.length_drop, List.length_take]; omega) ?_; intro vC wC hoC hbC hg_ hat_; clear hg_ hat_; rw [List.nil_append, ← List.eraseIdx_eq_take_drop_succ] at hoC; obtain ⟨Ad, cd, ed⟩ := Kd.R_slice hoC; subst ed; have HD := zK_ (Kd.R_mono (Kd.R_bound (Kd.R_lower hoC (Nat.le_refl wd.heap.size))) (ok' := fun k => wd.heap.size ≤ k) fun k hk => hk.2.1); have HBC := zK_ hbC; clear hoC hbC HOB HBB; refine hK.out _ _ trivial (fun hHeld => ?_); clear hK K; refine norm_ (a' := ?_) ?_ ?_; rotate_left
     ·show Act.put _ (some 41) _ = _; exact zzS
     refine one_ (i := 11) (N := some 42) (zM 14 4095) rfl rfl (one_of HT_.out (by kernel_rfl)) (by decide) (fun K hK => ?_); refine value_ (w1 := ?_) (v := ?_) (by rfl) rfl ?_ ?_; rotate_left 2
     ·go_simp; constructor
      ·rfl
      ·rfl
     refine hK.out _ _ trivial (fun hHeld => ?_); clear hK K; refine norm_ (a' := ?_) ?_ ?_; rotate_left
     ·show Act.put _ (some 42) _ = _; exact zzS
     refine one_ (i := 12) (N := some 43) (zM 14 8191) rfl rfl (one_of HT_.out (by kernel_rfl)) (by decide) (fun K hK => ?_); refine Kd.S_append_step (Kd.slice 3 (Kd.int .i64)) (w0 := w) w.heap.size (by rfl) (.tmp 31) (.tmp 42) 34 26 (.slice none 0 0) 24 rfl Try.underlying34 info26 rfl (by decide) (by omega) u5 (Cf.keepF q L i) (x.eraseIdx q) [.slice Ad (x.eraseIdx q).length cd] (fun k => k < w1b.heap.size ∨ w2.heap.size ≤ k) (fun k => wd.heap.size ≤ k) rfl rfl (Kd.M_row (Kd.R_lower HD.out (below_size HBd.out))) ?aK (fun k hk => .inr (by have := HId.out; have := HBC.out.size; omega)) ?aO (below_step HBd.out HBC.out) (below_size (below_step HBd.out HBC.out)) ?aL ?_; (case aK => exact fun k hk => ⟨.inr (by have := HId.out; omega), fun e => by have := Kd.S_lt HSd.out k e.symm; omega⟩); (case aO => exact Kd.S_mono (Kd.S_below (Kd.S_bound HSd.out) HBC.out) fun k hk => ⟨hk.1, fun h => by have := hk.2.2.1; omega⟩); (case aL => have := HKL.out; have := HQ.out.2.1; have := HLT.out; omega); intro vE wE hoE hbE hgE hat_; have HOE := zK_ hoE; have HBE := zK_ hbE; have HLE := zK_ (Kd.S_grown (Kd.S_below (Kd.S_bound HLd.out) HBC.out) hgE fun k hk e => by have := HSd.out.choose_spec.1 k e.symm; have := hk.1; omega); have HZE := zK_ hgE.size; clear hoE hbE hgE hat_; refine hK.out _ _ trivial (fun hHeld => ?_); clear hK K; refine norm_ (a' := ?_) ?_ ?_; rotate_left
     ·show Act.put _ (some 43) _ = _; exact zzS
     refine zQ 13 5 (zM 14 16383) ?_
     refine done_ (done_of HT_.out (by kernel_rfl)) ?_; (try go_wp2); go_roundw
     case rel =>
      refine ⟨i + 1, by go_num, ⟨by have := HLT.out; omega, by have := HBC.out.size; have := HZE.out; have := HId.out; omega⟩, HBE, ⟨Kd.S_mono HLE.out fun k hk => hk.1⟩, ⟨?_⟩⟩
      ·have e : Cf.keepF q L (i + 1) = Cf.keepF q L i ++ [x.eraseIdx q] := by
        show (if i = q then _ else _) = _; rw [if_neg HQI.out, List.getD_eq_getElem?_getD, HXI.out]; rfl
       rw [e]; exact HOE.out
     case measure =>
      have := HLT.out; (simp [intOf]); omega
   ·cases H
def spec_CountTrees.f (k : Nat) (aD : Int) (aC : List (S57)) : Option (Int) := (spec_GraphOk.f k aD aC).bind fun bA => (if bA = true then ((spec_ReducedLaplacian.f k aD aC 0).bind fun bL => ((spec_Determinant.f k bL).bind fun dP => (some dP))) else (some 0))
theorem spec_CountTrees.mono : ∀ a0 a1 k, LeO (spec_CountTrees.f k a0 a1) (spec_CountTrees.f (k + 1) a0 a1) := by
 intro a0 a1 k; unfold spec_CountTrees.f; repeat' first | (with_reducible apply spec_Determinant.mono) | (with_reducible apply spec_GraphOk.mono) | (with_reducible apply spec_ReducedLaplacian.mono) | (with_reducible exact LeO.refl _) | (with_reducible exact LeO.none _) | (with_reducible refine LeO.ite ?_ ?_) | (with_reducible refine LeO.bind ?_ (fun _ => ?_)) | apply spec_Determinant.mono | apply spec_GraphOk.mono | apply spec_ReducedLaplacian.mono | exact LeO.none _ | refine LeO.ite ?_ ?_ | refine LeO.bind ?_ (fun _ => ?_)
theorem spec_CountTrees.calls (k : Nat) (aD : Int) (aH : Option Addr) (aG : Nat) (aC : List (S57)) (r : Int) (w : World) (hr0_1 : Kd.C k57 w aH aC.length aC) (hc0_1 : aC.length ≤ aG) (h : spec_CountTrees.f k aD aC = some r) :
  Calls Try.prog 77 #[.agg #[.int .i64 aD, .slice aH aC.length aG]] w fun e w' => e = .returned (.int .i64 r) ∧ Below w.heap.size w w' := by
 have hu25 := Try.underlying25; have bM := zK_ hr0_1; have bG := zK_ hc0_1; clear hr0_1 hc0_1; have HB := zK_ (Below.refl w.heap.size w); have H : ((spec_GraphOk.f k aD aC).bind fun bA => (if bA = true then ((spec_ReducedLaplacian.f k aD aC 0).bind fun bL => ((spec_Determinant.f k bL).bind fun dP => (some dP))) else (some 0))) = some r := h; clear h; obtain ⟨bA, A20, H⟩ := zO_ H; (try dsimp only at H); have A2 := zK_ A20; clear A20; by_cases c3 : bA = true; rotate_left
 ·replace c3 := Bool.eq_false_iff.mpr c3; subst c3; rw [if_neg (show ¬ (false = true) by decide)] at H; obtain rfl := Option.some.inj H; go_enter Try.func77, Try.ntmps77; (go_wp2_with (first | ((with_reducible refine gate_dst (N := 1) rfl ?_); refine box_event ?hg (N := 1) ?hd (cs := #[.int .i64 aD, .slice aH aC.length aG]) (t := 25) ?hr ?_; (case hd => rfl); (case hg => rfl); (case hr => exact zz9); intro aE hg w13 hbox hb; have n_ := zA4 (below_step zz1 hb) hbox (zz10 : w.heap.size ≤ aE) (zz10 : w.heap.size ≤ aE); clear HB; obtain ⟨HB, aA, GW101, GE101⟩ := n_; clear hb hbox hg; have eG := zC20 aA; have eF := zC21 aA; have dZ := blk_frozen aA.out 0; have dY := blk_frozen aA.out 1) | ((with_reducible refine gate_callee (f := 55) rfl ?_); refine goesL_ (some 4) rfl rfl Try.func55 (by kernel_rfl) rfl #[.agg #[.int .i64 aD, .slice aH aC.length aG]] rfl zz4 ?_; (with_reducible refine (spec_GraphOk.calls k aD _ _ aC false _ ?side1 ?side2 A2.out).mono ?_); (case side1 => exact zz6); (case side2 => exact bG.out); rintro e w15 ⟨rfl, hb⟩; refine ⟨_, rfl, ?_⟩; have n_ := zA2 (blk_below (g := aE) (o := .cells #[.int .i64 aD, .slice aH aC.length aG] 25 (0, 0)) zz2 hb) (below_step zz0 hb); clear aA HB; obtain ⟨aA, HB⟩ := n_; clear hb))); go_ret; exact ⟨zz7, zz0⟩
 subst c3; rw [if_pos rfl] at H; obtain ⟨bL, A40, H⟩ := zO_ H; (try dsimp only at H); have A4 := zK_ A40; clear A40; obtain ⟨dP, A50, H⟩ := zO_ H; (try dsimp only at H); have A5 := zK_ A50; clear A50; obtain rfl := Option.some.inj H; go_enter Try.func77, Try.ntmps77; (go_wp2_with (first | ((with_reducible refine gate_dst (N := 1) rfl ?_); refine box_event ?hg (N := 1) ?hd (cs := #[.int .i64 aD, .slice aH aC.length aG]) (t := 25) ?hr ?_; (case hd => rfl); (case hg => rfl); (case hr => exact zz9); intro aE hg w6 hbox hb; have n_ := zA4 (below_step zz1 hb) hbox (zz10 : w.heap.size ≤ aE) (zz10 : w.heap.size ≤ aE); clear HB; obtain ⟨HB, aA, GW101, GE101⟩ := n_; clear hb hbox hg; have eE := zC20 aA; have d9 := zC21 aA; have dX := blk_frozen aA.out 0; have dW := blk_frozen aA.out 1) | ((with_reducible refine gate_callee (f := 55) rfl ?_); refine goesL_ (some 4) rfl rfl Try.func55 (by kernel_rfl) rfl #[.agg #[.int .i64 aD, .slice aH aC.length aG]] rfl zz4 ?_; (with_reducible refine (spec_GraphOk.calls k aD _ _ aC true _ ?side1 ?side2 A2.out).mono ?_); (case side1 => exact zz6); (case side2 => exact bG.out); rintro e w8 ⟨rfl, hb⟩; refine ⟨_, rfl, ?_⟩; have n_ := zA2 (blk_below (g := aE) (o := .cells #[.int .i64 aD, .slice aH aC.length aG] 25 (0, 0)) zz2 hb) (below_step zz0 hb); clear aA HB; obtain ⟨aA, HB⟩ := n_; clear hb; have d8 := zC20 aA; have d7 := zC21 aA; have dV := blk_frozen aA.out 0; have dU := blk_frozen aA.out 1) | ((with_reducible refine gate_callee (f := 107) rfl ?_); refine goesL_ (some 7) rfl rfl Try.func107 (by kernel_rfl) rfl #[.agg #[.int .i64 aD, .slice aH aC.length aG], .int .i64 0] rfl zz4 ?_; (with_reducible refine (spec_ReducedLaplacian.calls k aD _ _ aC 0 bL _ ?side1 ?side2 A4.out).mono ?_); (case side1 => exact zz6); (case side2 => exact bG.out); rintro e w10 ⟨v104, rfl, ho0, hb⟩; refine ⟨_, rfl, ?_⟩; have n_ := zA3 (Kd.S_lower ho0 (below_size zz0)) (blk_below (g := aE) (o := .cells #[.int .i64 aD, .slice aH aC.length aG] 25 (0, 0)) zz2 hb) (below_step zz0 hb); clear aA HB; obtain ⟨eT, aA, HB⟩ := n_; clear ho0 hb; obtain ⟨Ao11, co11, rI⟩ := Kd.S_slice eT.out; subst rI) | ((with_reducible refine gate_callee (f := 106) rfl ?_); refine goesL_ (some 8) rfl rfl Try.func106 (by kernel_rfl) rfl #[.slice Ao11 bL.length co11] rfl zz4 ?_; (with_reducible refine (spec_Determinant.calls k _ _ bL dP _ ?side1 ?side2 A5.out).mono ?_); (case side1 => repeat (first | exact (Kd.S_reads' eT.out).2.2 | (with_reducible refine Kd.C_alloc ?_ _) | (with_reducible refine Kd.C_drewN ?_ _) | (with_reducible refine Kd.C_drew ?_))); (case side2 => exact (Kd.S_reads' eT.out).2.1); rintro e w12 ⟨rfl, hb⟩; refine ⟨_, rfl, ?_⟩; have n_ := zA3 (Kd.S_below (by (with_reducible repeat (first | apply Kd.S_alloc | apply Kd.S_drewN | apply Kd.S_drew)); exact eT.out) hb) (blk_below (g := aE) (o := .cells #[.int .i64 aD, .slice aH aC.length aG] 25 (0, 0)) zz2 hb) (below_step zz0 hb); clear eT aA HB; obtain ⟨eT, aA, HB⟩ := n_; clear hb))); go_ret; exact ⟨zz7, zz0⟩
def spec_GroupOrder.f (k : Nat) (aD : Int) (aC : List (S57)) : Option (Int) := (spec_CountTrees.f k aD aC).bind fun bA => (some bA)
theorem spec_GroupOrder.mono : ∀ a0 a1 k, LeO (spec_GroupOrder.f k a0 a1) (spec_GroupOrder.f (k + 1) a0 a1) := by
 intro a0 a1 k; unfold spec_GroupOrder.f; repeat' first | (with_reducible apply spec_CountTrees.mono) | (with_reducible exact LeO.refl _) | (with_reducible exact LeO.none _) | (with_reducible refine LeO.ite ?_ ?_) | (with_reducible refine LeO.bind ?_ (fun _ => ?_)) | apply spec_CountTrees.mono | exact LeO.none _ | refine LeO.ite ?_ ?_ | refine LeO.bind ?_ (fun _ => ?_)
theorem spec_GroupOrder.calls (k : Nat) (aD : Int) (aH : Option Addr) (aG : Nat) (aC : List (S57)) (r : Int) (w : World) (hr0_1 : Kd.C k57 w aH aC.length aC) (hc0_1 : aC.length ≤ aG) (h : spec_GroupOrder.f k aD aC = some r) :
  Calls Try.prog 57 #[.agg #[.int .i64 aD, .slice aH aC.length aG]] w fun e w' => e = .returned (.int .i64 r) ∧ Below w.heap.size w w' := by
 have hu25 := Try.underlying25; have bM := zK_ hr0_1; have bG := zK_ hc0_1; clear hr0_1 hc0_1; have HB := zK_ (Below.refl w.heap.size w); have H : ((spec_CountTrees.f k aD aC).bind fun bA => (some bA)) = some r := h; clear h; obtain ⟨bA, A20, H⟩ := zO_ H; (try dsimp only at H); have A2 := zK_ A20; clear A20; obtain rfl := Option.some.inj H; go_enter Try.func57, Try.ntmps57; (go_wp2_with (first | ((with_reducible refine gate_dst (N := 1) rfl ?_); refine box_event ?hg (N := 1) ?hd (cs := #[.int .i64 aD, .slice aH aC.length aG]) (t := 25) ?hr ?_; (case hd => rfl); (case hg => rfl); (case hr => exact zz9); intro aE hg w3 hbox hb; have n_ := zA4 (below_step zz1 hb) hbox (zz10 : w.heap.size ≤ aE) (zz10 : w.heap.size ≤ aE); clear HB; obtain ⟨HB, aA, GW101, GE101⟩ := n_; clear hb hbox hg; have m4 := zC20 aA; have m3 := zC21 aA; have mZ := blk_frozen aA.out 0; have mY := blk_frozen aA.out 1) | ((with_reducible refine gate_callee (f := 77) rfl ?_); refine goesL_ (some 4) rfl rfl Try.func77 (by kernel_rfl) rfl #[.agg #[.int .i64 aD, .slice aH aC.length aG]] rfl zz4 ?_; (with_reducible refine (spec_CountTrees.calls k aD _ _ aC bA _ ?side1 ?side2 A2.out).mono ?_); (case side1 => exact zz6); (case side2 => exact bG.out); rintro e w5 ⟨rfl, hb⟩; refine ⟨_, rfl, ?_⟩; have n_ := zA2 (blk_below (g := aE) (o := .cells #[.int .i64 aD, .slice aH aC.length aG] 25 (0, 0)) zz2 hb) (below_step zz0 hb); clear aA HB; obtain ⟨aA, HB⟩ := n_; clear hb))); go_ret; exact ⟨zz7, zz0⟩
def spec_l09Less.l0 : Nat → List Int → List Int → Int → Int → Option (Bool)
 | 0, _, _, _, _ => none
 | k + 1, x1, x7, x8, x9 => if x9 < x8 then (if 0 ≤ x9 then (if x9 < (x7.length : Int) then (if x9 < (x1.length : Int) then (if (rd x7 x9) = (rd x1 x9) then (spec_l09Less.l0 k x1 x7 x8 (wrap64 (x9 + 1))) else (some (decide ((rd x7 x9) < (rd x1 x9))))) else (none)) else (none)) else (none)) else (some false)
def spec_l09Less.f (k : Nat) (l0 : List Int) (l1 : List Int) : Option (Bool) := spec_l09Less.l0 k l1 l0 (l0.length : Int) 0
theorem spec_l09Less.mono_l : ∀ k, (∀ y0 y1 y2 y3, LeO (spec_l09Less.l0 k y0 y1 y2 y3) (spec_l09Less.l0 (k + 1) y0 y1 y2 y3))
 | 0 => fun _ _ _ _ r h => by simp [spec_l09Less.l0] at h
 | k + 1 => by
  have ih0 := spec_l09Less.mono_l k
  ·intro y0 y1 y2 y3
   unfold spec_l09Less.l0
   exact zm0
theorem spec_l09Less.mono : ∀ a0 a1 k, LeO (spec_l09Less.f k a0 a1) (spec_l09Less.f (k + 1) a0 a1) := by
 intro a0 a1 k; have ih0 := spec_l09Less.mono_l k; unfold spec_l09Less.f; exact zm0
theorem spec_l09Less.calls (k : Nat) (A0 : Option Addr) (c0 : Nat) (l0 : List Int) (A1 : Option Addr) (c1 : Nat) (l1 : List Int) (r : Bool) (w : World) (hr0 : Kd.C (Kd.int .i64) w A0 l0.length l0) (hc0 : l0.length ≤ c0) (hr1 : Kd.C (Kd.int .i64) w A1 l1.length l1) (hc1 : l1.length ≤ c1) (h : spec_l09Less.f k l0 l1 = some r) :
  Calls Try.prog 96 #[.slice A0 l0.length c0, .slice A1 l1.length c1] w fun e w' => e = .returned (.bool r) ∧ Drawn0 w w' := by
 have HR0 := zK_ hr0; have HC0 := zK_ hc0; clear hr0 hc0; have HR1 := zK_ hr1; have HC1 := zK_ hc1; clear hr1 hc1; have H : (spec_l09Less.l0 k l1 l0 (l0.length : Int) 0) = some r := h; clear h; have H' := zK_ H; clear H; go_enter Try.func96, Try.ntmps96; go_wp2; (go_loopg [9] k (fun kq v9 w' => ∃ (bR : Int), v9 = .int .i64 bR ∧ Aside0 (spec_l09Less.l0 kq l1 l0 (l0.length : Int) bR = some r) ∧ Aside0 (kq ≤ k) ∧ Drawn0 w w')); case atStart => exact ⟨(0), zz5, H', ⟨Nat.le_refl _⟩, by repeat (first | exact Drawn0.refl _ | apply Drawn0.step)⟩
 case round =>
  clear H'; (try clear c1); (try clear p2); obtain ⟨bR, rfl, HA, HK1, ⟨m1, rfl⟩⟩ := hrel
  cases gk with
  | zero => exact absurd HA.out (by simp [spec_l09Less.l0])
  | succ k1 =>
   have H := HA.out; clear HA; simp only [spec_l09Less.l0] at H; by_cases c3 : bR < (l0.length : Int); rotate_left
   ·rw [if_neg c3] at H; have dB := decide_eq_false c3; clear c3; obtain rfl := Option.some.inj H; go_wp2; go_ret; exact ⟨zz5, by repeat (first | exact Drawn0.refl _ | apply Drawn0.step)⟩
   rw [if_pos c3] at H; have dB := decide_eq_true c3; clear c3; by_cases c4 : 0 ≤ bR; rotate_left
   ·rw [if_neg c4] at H; exact absurd H (by simp)
   rw [if_pos c4] at H; have cY := decide_eq_true c4; clear c4; by_cases c5 : bR < (l0.length : Int); rotate_left
   ·rw [if_neg c5] at H; exact absurd H (by simp)
   rw [if_pos c5] at H; have dF := decide_eq_true c5; clear c5; by_cases c6 : bR < (l1.length : Int); rotate_left
   ·rw [if_neg c6] at H; exact absurd H (by simp)
   rw [if_pos c6] at H; have eN := decide_eq_true c6; clear c6; by_cases c7 : (rd l0 bR) = (rd l1 bR)
   ·rw [if_pos c7] at H; have dL : ((rd l0 bR) == (rd l1 bR)) = true := beq_iff_eq.mpr c7; have kR : ((rd l0 bR) != (rd l1 bR)) = false := bne_eq_false_iff_eq.mpr c7; clear c7; have H' := zK_ H; clear H; have p101 : 0 ≤ (bR : Int) := of_decide_eq_true zz3; have q101 : bR < (l0.length : Int) := of_decide_eq_true zz3; obtain ⟨cF, e101, a8⟩ := Kd.at_int HR0.out bR p101 q101; cases e101; replace p101 := eq_true p101; replace q101 := eq_true q101; have p102 : 0 ≤ (bR : Int) := of_decide_eq_true zz3; have q102 : bR < (l1.length : Int) := of_decide_eq_true zz3; obtain ⟨cO, e102, a7⟩ := Kd.at_int HR1.out bR p102 q102; cases e102; replace p102 := eq_true p102; replace q102 := eq_true q102; go_wp2; go_roundg k1; (case measure => have := HK1.out; omega); case rel => exact ⟨(wrap64 (bR + 1)), zz5, H', ⟨zz34⟩, by repeat (first | exact Drawn0.refl _ | apply Drawn0.step)⟩
   rw [if_neg c7] at H; have dL : ((rd l0 bR) == (rd l1 bR)) = false := beq_eq_false_iff_ne.mpr c7; have kR : ((rd l0 bR) != (rd l1 bR)) = true := bne_iff_ne.mpr c7; obtain rfl := Option.some.inj H; have p101 : 0 ≤ (bR : Int) := of_decide_eq_true zz3; have q101 : bR < (l0.length : Int) := of_decide_eq_true zz3; obtain ⟨cF, e101, a8⟩ := Kd.at_int HR0.out bR p101 q101; cases e101; replace p101 := eq_true p101; replace q101 := eq_true q101; have p102 : 0 ≤ (bR : Int) := of_decide_eq_true zz3; have q102 : bR < (l1.length : Int) := of_decide_eq_true zz3; obtain ⟨cO, e102, a7⟩ := Kd.at_int HR1.out bR p102 q102; cases e102; replace p102 := eq_true p102; replace q102 := eq_true q102; have p103 : 0 ≤ (bR : Int) := of_decide_eq_true zz3; have q103 : bR < (l1.length : Int) := of_decide_eq_true zz3; obtain ⟨bD, e103, aQ⟩ := Kd.at_int HR1.out bR p103 q103; obtain rfl : cO = bD := (by injection e103); replace p103 := eq_true p103; replace q103 := eq_true q103; go_wp2; go_ret; exact ⟨zz5, by repeat (first | exact Drawn0.refl _ | apply Drawn0.step)⟩
end Go.Proofs.Ytnbljcgdgblgoaa.P
end

section
namespace Go.Proofs.Ytnbljcgdgblgoaa.Cf
set_option linter.unusedVariables false
set_option linter.unusedSimpArgs false
open Go.RowKit Go.Proofs.YtnbljcgdgblgoaaW.PrintWords
def Heads (w : World) (base : Nat) (ok : Nat → Prop) (f : Nat → Nat) (cur : Array Value) (Z : List (List Int × Nat)) : Prop :=
 ∀ (j : Nat) (x : List Int) (i : Nat), Z[j]? = some (x, i) → ∃ v, cur[j]? = some v ∧ Kd.R (Kd.int .i64) 3 w base (fun k => ok k ∧ f k = i) v x
theorem S_heads {w : World} {base g n cap : Nat} {ok : Nat → Prop} {rows : List (List Int)} (h : Kd.S (Kd.slice 3 (Kd.int .i64)) 26 w base ok (.slice (some ⟨g, 0, none⟩) n cap) rows) :
  ∃ f cur, base ≤ g ∧ ok g ∧ n = rows.length ∧ n ≤ cap ∧ cap ≤ maxLen ∧ cur.size = cap ∧ w.heap[g]? = some (.cells cur 26 (0, 0)) ∧ Heads w base (fun k => ok k ∧ k ≠ g) f cur rows.zipIdx := by
 obtain ⟨f, h0, inner, ho, hr⟩ := h
 rw [List.length_zipIdx] at ho
 have hn := ho.1
 rcases ho.2 with ⟨hv, _⟩ | ⟨g', cap', cur, hv, hb, hc, hnc, hcm, hcs, htk⟩
 ·cases hv
 ·injection hv with hA hN hC
  injection hA with hA
  injection hA with hA
  subst hA
  subst hC
  have hl : (rows.length : Nat) = n := hN.symm
  refine ⟨f, cur, hb, h0 g rfl, hl.symm, by omega, hcm, by rw [hcs]; exact Nat.mul_one _, hc, ?_⟩
  intro j x i hj
  have hM := hr.2 j (x, i) hj
  obtain ⟨v, hv2, hR⟩ := hM
  refine ⟨v, ?_, Kd.R_mono hR fun k hk => ⟨⟨hk.1.1, fun e => hk.1.2 (by rw [e]; rfl)⟩, hk.2⟩⟩
  have e1 : ((inner.drop (j * 1)).take 1) = [v] := hv2
  rw [Nat.mul_one] at e1
  have hjl : j < rows.length := by have := (List.getElem?_eq_some_iff.1 hj).1; rwa [List.length_zipIdx] at this
  have e2 : inner[j]? = some v := by
   have h1 := congrArg (fun l : List Value => l[0]?) e1
   simp only [List.getElem?_take, List.getElem?_drop] at h1
   simpa using h1
  rw [← htk, List.getElem?_take, if_pos (by show j < rows.length * 1; omega)] at e2
  simpa using e2
theorem heads_S {w : World} {base g cap : Nat} {ok : Nat → Prop} {f : Nat → Nat} {cur : Array Value} {rows : List (List Int)} (hb : base ≤ g) (hok : ok g) (hn : rows.length ≤ cap) (hcm : cap ≤ maxLen) (hcs : cur.size = cap) (hc : w.heap[g]? = some (.cells cur 26 (0, 0))) (hH : Heads w base ok f cur rows.zipIdx) :
  Kd.S (Kd.slice 3 (Kd.int .i64)) 26 w base ok (.slice (some ⟨g, 0, none⟩) rows.length cap) rows := by
 have hz : rows.zipIdx.length = rows.length := List.length_zipIdx
 refine ⟨f, fun k hk => ?_, cur.toList.take rows.length, ?_, ?_⟩
 ·have : g = k := by simpa [Value.ownBlock] using hk
  rw [← this]; exact hok
 ·rw [hz]
  refine ⟨?_, .inr ⟨g, cap, cur, rfl, hb, hc, hn, hcm, by rw [hcs]; exact (Nat.mul_one _).symm, ?_⟩⟩
  ·show _ = rows.length * 1
   rw [List.length_take, show cur.toList.length = cap from hcs, Nat.min_eq_left hn, Nat.mul_one]
  ·show cur.toList.take (rows.length * 1) = _
   rw [Nat.mul_one]
 ·refine ⟨?_, fun j p hj => ?_⟩
  ·show _ = rows.zipIdx.length * 1
   rw [hz, List.length_take, show cur.toList.length = cap from hcs, Nat.min_eq_left hn, Nat.mul_one]
  ·obtain ⟨x, i⟩ := p
   obtain ⟨v, hv, hR⟩ := hH j x i hj
   have hjl : j < rows.length := by have := (List.getElem?_eq_some_iff.1 hj).1; rwa [List.length_zipIdx] at this
   refine ⟨v, ?_, Kd.R_mono (Kd.R_types hR hc (by decide)) fun k hk => ⟨⟨hk.1.1, fun e => hk.2 (by simpa [Value.ownBlock] using e)⟩, hk.1.2⟩⟩
   show ((cur.toList.take rows.length).drop (j * 1)).take 1 = [v]
   have e : (cur.toList.take rows.length)[j]? = some v := by
    rw [List.getElem?_take, if_pos hjl]
    simpa using hv
   obtain ⟨hl, he⟩ := List.getElem?_eq_some_iff.1 e
   rw [Nat.mul_one, List.drop_eq_getElem_cons hl, he]
   rfl
def keptZ (p : List Int → Bool) (rows : List (List Int)) (j : Nat) : List (List Int × Nat) := (rows.zipIdx.take j).filter fun x => !p x.1
theorem keptZ_succ (p : List Int → Bool) {rows : List (List Int)} {j : Nat} (h : j < rows.length) : keptZ p rows (j + 1) = keptZ p rows j ++ (if p rows[j] = true then [] else [(rows[j], j)]) := by
 have hz : rows.zipIdx[j]? = some (rows[j], j) := by rw [List.getElem?_zipIdx, List.getElem?_eq_getElem h, Nat.zero_add]; rfl
 unfold keptZ
 rw [List.take_add_one, hz, List.filter_append]
 congr 1
 by_cases c : p rows[j] = true
 ·rw [if_pos c]; simp [c]
 ·rw [if_neg c]; simp [c]
theorem keptZ_all (p : List Int → Bool) (rows : List (List Int)) : (keptZ p rows rows.length).map (·.1) = rows.filter fun x => !p x := by
 unfold keptZ
 rw [List.take_of_length_le (by rw [List.length_zipIdx]; exact Nat.le_refl _)]
 have h := List.filter_map (f := fun x : List Int × Nat => x.1) (p := fun x => !p x) (l := rows.zipIdx)
 rw [List.zipIdx_map_fst] at h
 exact h.symm
theorem keptZ_nodup (p : List Int → Bool) (rows : List (List Int)) (j : Nat) : ((keptZ p rows j).map (·.2)).Nodup := by
 have h1 : (keptZ p rows j).Sublist rows.zipIdx := (List.filter_sublist).trans (List.take_sublist _ _)
 have h2 := h1.map (·.2)
 refine h2.nodup ?_
 rw [List.zipIdx_map_snd]
 exact List.nodup_range'
theorem heads_push {w : World} {base : Nat} {ok : Nat → Prop} {f : Nat → Nat} {cur : Array Value} {Z : List (List Int × Nat)} (h : Heads w base ok f cur Z) {v : Value} {x : List Int} {t : Nat} (hl : Z.length < cur.size) (hR : Kd.R (Kd.int .i64) 3 w base (fun k => ok k ∧ f k = t) v x) : Heads w base ok f (cur.setIfInBounds Z.length v) (Z ++ [(x, t)]) := by
 intro j y i hj
 by_cases e : j < Z.length
 ·rw [List.getElem?_append_left e] at hj
  obtain ⟨u, hu, hRu⟩ := h j y i hj
  exact ⟨u, by rw [Array.getElem?_setIfInBounds_ne (by omega)]; exact hu, hRu⟩
 ·have hjl := (List.getElem?_eq_some_iff.1 hj).1
  rw [List.length_append, List.length_singleton] at hjl
  obtain rfl : j = Z.length := by omega
  rw [List.getElem?_append_right (Nat.le_refl _), Nat.sub_self] at hj
  obtain ⟨rfl, rfl⟩ := Prod.mk.inj (Option.some.inj hj)
  exact ⟨v, by rw [Array.getElem?_setIfInBounds_self_of_lt hl], hR⟩
theorem heads_take {w : World} {base : Nat} {ok : Nat → Prop} {f : Nat → Nat} {cur : Array Value} {Z : List (List Int × Nat)} (h : Heads w base ok f cur Z) (n : Nat) : Heads w base ok f cur (Z.take n) := by
 intro j x i hj
 rw [List.getElem?_take] at hj
 split at hj
 ·exact h j x i hj
 ·cases hj
theorem heads_cells {w : World} {base : Nat} {ok : Nat → Prop} {f : Nat → Nat} {cur cur' : Array Value} {Z : List (List Int × Nat)} (h : Heads w base ok f cur Z) (hc : ∀ j, j < Z.length → cur'[j]? = cur[j]?) : Heads w base ok f cur' Z := by
 intro j x i hj
 obtain ⟨v, hv, hR⟩ := h j x i hj
 exact ⟨v, (hc j (List.getElem?_eq_some_iff.1 hj).1).trans hv, hR⟩
theorem heads_step {w w1 : World} {base : Nat} {ok : Nat → Prop} {f : Nat → Nat} {cur : Array Value} {Z : List (List Int × Nat)} (h : Heads w base ok f cur Z) (hm : ∀ k, ok k → k < w.heap.size → w1.heap[k]? = w.heap[k]?) : Heads w1 base ok f cur Z := fun j x i hj => by
 obtain ⟨v, hv, hR⟩ := h j x i hj
 exact ⟨v, hv, Kd.R_step hR fun k hk hlt => hm k hk.1 hlt⟩
theorem keptZ_pre (p : List Int → Bool) (rows : List (List Int)) {i : Nat} (hi : i ≤ rows.length) (h : ∀ j, (hj : j < rows.length) → j < i → p rows[j] = false) : keptZ p rows i = rows.zipIdx.take i := by
 unfold keptZ
 rw [List.filter_eq_self]
 intro x hx
 obtain ⟨j, hj, rfl⟩ := List.getElem_of_mem hx
 rw [List.length_take, List.length_zipIdx] at hj
 rw [List.getElem_take, List.getElem_zipIdx]
 simp only
 rw [h j (by omega) (by omega)]
 rfl
theorem kept_S {w : World} {base g cap : Nat} {ok : Nat → Prop} {f : Nat → Nat} {cur : Array Value} {rows : List (List Int)} {p : List Int → Bool} (hb : base ≤ g) (hok : ok g) (hn : rows.length ≤ cap) (hcm : cap ≤ maxLen) (hcs : cur.size = cap) (hc : w.heap[g]? = some (.cells cur 26 (0, 0))) (hH : Heads w base ok f cur (keptZ p rows rows.length)) :
  Kd.S (Kd.slice 3 (Kd.int .i64)) 26 w base ok (.slice (some ⟨g, 0, none⟩) (rows.filter fun x => !p x).length cap) (rows.filter fun x => !p x) := by
 have hl : (rows.filter fun x => !p x).length ≤ cap := Nat.le_trans (List.length_filter_le _ _) hn
 refine heads_S (f := fun k => ((keptZ p rows rows.length).map (·.2)).idxOf (f k)) hb hok hl hcm hcs hc ?_
 intro j x i hj
 rw [← keptZ_all p rows] at hj
 rw [List.getElem?_zipIdx, Nat.zero_add, List.getElem?_map] at hj
 obtain ⟨y, hy, he⟩ := Option.map_eq_some_iff.1 hj
 obtain ⟨z, hz, hz2⟩ := Option.map_eq_some_iff.1 hy
 obtain ⟨z1, z2⟩ := z
 subst hz2
 obtain ⟨rfl, rfl⟩ := Prod.mk.inj he
 obtain ⟨v, hv, hR⟩ := hH j z1 z2 hz
 refine ⟨v, hv, Kd.R_mono hR fun k hk => ⟨hk.1, ?_⟩⟩
 show ((keptZ p rows rows.length).map (·.2)).idxOf (f k) = j
 have hm : ((keptZ p rows rows.length).map (·.2))[j]? = some z2 := by rw [List.getElem?_map, hz]; rfl
 obtain ⟨hjl, hje⟩ := List.getElem?_eq_some_iff.1 hm
 rw [hk.2, ← hje]
 exact (keptZ_nodup p rows rows.length).idxOf_getElem j hjl
def encH (t : Option Addr × Nat × Nat) : Value := .slice t.1 t.2.1 t.2.2
def HK : Kd (Option Addr × Nat × Nat) := Kd.scalar encH (fun _ => rfl)
theorem heads_of {w : World} {base n c : Nat} {A : Option Addr} {ok : Nat → Prop} {rows : List (List Int)} (h : Kd.S (Kd.slice 3 (Kd.int .i64)) 26 w base ok (.slice A n c) rows) :
  ∃ (f : Nat → Nat) (H : Nat → Option Addr × Nat × Nat), ∀ (j : Nat) (x : List Int), rows[j]? = some x → Kd.R (Kd.int .i64) 3 w base (fun k => ok k ∧ f k = j) (encH (H j)) x ∧ ∀ g, A = some ⟨g, 0, none⟩ → w.cell? ⟨g, j, none⟩ = some (encH (H j)) := by
 obtain ⟨f, h0, inner, ho, hr⟩ := h
 have key : ∀ (j : Nat) (x : List Int), rows[j]? = some x → ∃ t : Option Addr × Nat × Nat, Kd.R (Kd.int .i64) 3 w base (fun k => ok k ∧ f k = j) (encH t) x ∧ ∀ g, A = some ⟨g, 0, none⟩ → w.cell? ⟨g, j, none⟩ = some (encH t) := by
  intro j x hj
  have hz : rows.zipIdx[j]? = some (x, j) := by rw [List.getElem?_zipIdx, hj, Nat.zero_add]; rfl
  obtain ⟨v, hv2, hR⟩ := hr.2 j (x, j) hz
  obtain ⟨Ax, cx, ex⟩ := Kd.R_slice hR
  subst ex
  have e1 : ((inner.drop (j * 1)).take 1) = [.slice Ax x.length cx] := hv2
  rw [Nat.mul_one] at e1
  have e2 : inner[j]? = some (.slice Ax x.length cx) := by
   have h1 := congrArg (fun l : List Value => l[0]?) e1
   simp only [List.getElem?_take, List.getElem?_drop] at h1
   simpa using h1
  refine ⟨(Ax, x.length, cx), Kd.R_mono hR fun k hk => ⟨hk.1.1, hk.2⟩, fun g hg => ?_⟩
  subst hg
  have h3 := ho.cells (g := g) rfl j _ e2
  rwa [add_plain] at h3
 classical
 refine ⟨f, fun j => if hj : j < rows.length then (key j rows[j] (List.getElem?_eq_getElem hj)).choose else (none, 0, 0), fun j x hx => ?_⟩
 obtain ⟨hj, e⟩ := List.getElem?_eq_some_iff.1 hx
 subst e
 simp only [dif_pos hj]
 exact (key j rows[j] (List.getElem?_eq_getElem hj)).choose_spec
theorem HK_S {w : World} {base : Nat} {okH ok : Nat → Prop} {f : Nat → Nat} {H : Nat → Option Addr × Nat × Nat} {v : Value} {Z : List (List Int × Nat)} (hR : Kd.R HK 26 w base okH v (Z.map fun z => H z.2)) (hz : (Z.map (·.2)).Nodup) (hrow : ∀ z ∈ Z, Kd.R (Kd.int .i64) 3 w base (fun k => ok k ∧ f k = z.2) (encH (H z.2)) z.1) :
  Kd.S (Kd.slice 3 (Kd.int .i64)) 26 w base (fun k => okH k ∨ ok k) v (Z.map (·.1)) := by
 have hty := Kd.R_typed hR
 obtain ⟨h0, inner, ho, hr⟩ := hR
 rw [List.length_map] at ho
 refine ⟨fun k => (Z.map (·.2)).idxOf (f k), fun k hk => Or.inl (h0 k hk), inner, by rw [List.length_zipIdx, List.length_map]; exact ho, ⟨?_, fun j p hj => ?_⟩⟩
 ·rw [List.length_zipIdx, List.length_map]
  have := hr.1
  rw [List.length_map] at this
  exact this
 ·obtain ⟨x, i⟩ := p
  rw [List.getElem?_zipIdx, Nat.zero_add, List.getElem?_map] at hj
  obtain ⟨y, hy, he⟩ := Option.map_eq_some_iff.1 hj
  obtain ⟨z, hz1, hz2⟩ := Option.map_eq_some_iff.1 hy
  obtain ⟨rfl, rfl⟩ := Prod.mk.inj he
  subst hz2
  have hM : ((inner.drop (j * 1)).take 1) = [encH (H z.2)] := hr.2 j (H z.2) (by rw [List.getElem?_map, hz1]; rfl)
  refine ⟨encH (H z.2), hM, ?_⟩
  have hR2 := hrow z (List.mem_of_getElem? hz1)
  have hidx : (Z.map (·.2)).idxOf z.2 = j := by
   have hm : (Z.map (·.2))[j]? = some z.2 := by rw [List.getElem?_map, hz1]; rfl
   obtain ⟨hjl, hje⟩ := List.getElem?_eq_some_iff.1 hm
   rw [← hje]
   exact hz.idxOf_getElem j hjl
  have hR3 : Kd.R (Kd.int .i64) 3 w base (fun k => (ok k ∧ f k = z.2) ∧ some k ≠ v.ownBlock) (encH (H z.2)) z.1 := by
   cases hv : v.ownBlock with
   | none => exact Kd.R_mono hR2 fun k hk => ⟨hk, by simp⟩
   | some g =>
    obtain ⟨cells, hc⟩ := hty g hv
    exact Kd.R_mono (Kd.R_types hR2 hc (by decide)) fun k hk => ⟨hk.1, fun e => hk.2 (by injection e)⟩
  exact Kd.R_mono hR3 fun k hk => ⟨⟨Or.inr hk.1.1, hk.2⟩, by show (Z.map (·.2)).idxOf (f k) = j; rw [hk.1.2]; exact hidx⟩
def kpos {α : Type} (lt : α → α → Bool) (x : α) (Z : List α) : Nat → Nat
 | 0 => 0
 | k + 1 => match Z[k]? with
  | some y => if lt x y = true then kpos lt x Z k else k + 1
  | none => k + 1
def insB {α : Type} (lt : α → α → Bool) (x : α) (Z : List α) : List α := Z.take (kpos lt x Z Z.length) ++ x :: Z.drop (kpos lt x Z Z.length)
def sortB {α : Type} (lt : α → α → Bool) (l : List α) (i : Nat) : List α := (l.take i).foldl (fun Z x => insB lt x Z) []
theorem kpos_le {α : Type} (lt : α → α → Bool) (x : α) (Z : List α) : ∀ k, kpos lt x Z k ≤ k
 | 0 => Nat.le_refl _
 | k + 1 => by
  unfold kpos
  split
  ·split
   ·exact Nat.le_succ_of_le (kpos_le lt x Z k)
   ·exact Nat.le_refl _
  ·exact Nat.le_refl _
theorem kpos_at {α : Type} (lt : α → α → Bool) (x : α) {Z : List α} {k : Nat} {y : α} (h : Z[k]? = some y) : kpos lt x Z (k + 1) = if lt x y = true then kpos lt x Z k else k + 1 := by
 rw [kpos, h]
theorem insB_len {α : Type} (lt : α → α → Bool) (x : α) (Z : List α) : (insB lt x Z).length = Z.length + 1 := by
 have := kpos_le lt x Z Z.length
 unfold insB
 rw [List.length_append, List.length_cons, List.length_take, List.length_drop]
 omega
theorem sortB_succ {α : Type} (lt : α → α → Bool) {l : List α} {i : Nat} {x : α} (h : l[i]? = some x) : sortB lt l (i + 1) = insB lt x (sortB lt l i) := by
 unfold sortB
 rw [List.take_add_one, h, List.foldl_append]
 rfl
theorem sortB_len {α : Type} (lt : α → α → Bool) (l : List α) : ∀ i, i ≤ l.length → (sortB lt l i).length = i
 | 0, _ => rfl
 | i + 1, h => by
  rw [sortB_succ lt (List.getElem?_eq_getElem (show i < l.length by omega)), insB_len, sortB_len lt l i (by omega)]
theorem insB_perm {α : Type} (lt : α → α → Bool) (x : α) (Z : List α) : (insB lt x Z).Perm (x :: Z) := by
 unfold insB
 refine List.perm_middle.trans ?_
 rw [List.take_append_drop]
theorem sortB_perm {α : Type} (lt : α → α → Bool) (l : List α) : ∀ i, i ≤ l.length → (sortB lt l i).Perm (l.take i)
 | 0, _ => by rw [List.take_zero]; exact List.Perm.refl _
 | i + 1, h => by
  rw [sortB_succ lt (List.getElem?_eq_getElem (show i < l.length by omega)), List.take_succ_eq_append_getElem (by omega)]
  exact (insB_perm lt _ _).trans (((sortB_perm lt l i (by omega)).cons _).trans (List.perm_append_comm (l₁ := [l[i]]) (l₂ := l.take i)))
theorem kpos_map {α β : Type} (g : α → β) (lt : β → β → Bool) (x : α) (Z : List α) : ∀ k, kpos (fun a b => lt (g a) (g b)) x Z k = kpos lt (g x) (Z.map g) k
 | 0 => rfl
 | k + 1 => by
  unfold kpos
  rw [List.getElem?_map]
  cases Z[k]? with
  | none => rfl
  | some y => simp only [Option.map_some, kpos_map g lt x Z k]
theorem insB_map {α β : Type} (g : α → β) (lt : β → β → Bool) (x : α) (Z : List α) : (insB (fun a b => lt (g a) (g b)) x Z).map g = insB lt (g x) (Z.map g) := by
 unfold insB
 rw [kpos_map, List.map_append, List.map_cons, List.map_take, List.map_drop, List.length_map]
theorem sortB_map {α β : Type} (g : α → β) (lt : β → β → Bool) (l : List α) : ∀ i, i ≤ l.length → (sortB (fun a b => lt (g a) (g b)) l i).map g = sortB lt (l.map g) i
 | 0, _ => rfl
 | i + 1, h => by
  rw [sortB_succ _ (List.getElem?_eq_getElem (show i < l.length by omega)), insB_map, sortB_map g lt l i (by omega), sortB_succ lt (x := g l[i]) (by rw [List.getElem?_map, List.getElem?_eq_getElem (show i < l.length by omega)]; rfl)]
theorem ins_set {α β : Type} (hd : α → β) {Z : List α} {hk : List β} {k : Nat} (z : α) (hl : hk.length = Z.length + 1) (hkl : k ≤ Z.length) (h1 : ∀ t, t < k → hk[t]? = (Z[t]?).map hd) (h2 : ∀ t, k < t → t ≤ Z.length → hk[t]? = (Z[t - 1]?).map hd) : hk.set k (hd z) = (Z.take k ++ z :: Z.drop k).map hd := by
 refine List.ext_getElem? fun t => ?_
 rw [List.getElem?_map]
 by_cases c1 : t < k
 ·rw [List.getElem?_set_ne (by omega), h1 t c1, List.getElem?_append_left (by rw [List.length_take]; omega), List.getElem?_take, if_pos c1]
 ·rw [List.getElem?_append_right (by rw [List.length_take]; omega), List.length_take, Nat.min_eq_left hkl]
  by_cases c2 : t = k
  ·subst c2
   rw [List.getElem?_set_self (by omega), Nat.sub_self]
   rfl
  ·rw [List.getElem?_set_ne (by omega), show t - k = (t - 1 - k) + 1 by omega, List.getElem?_cons_succ, List.getElem?_drop, show k + (t - 1 - k) = t - 1 by omega]
   by_cases c3 : t ≤ Z.length
   ·exact h2 t (by omega) c3
   ·rw [List.getElem?_eq_none (by omega), List.getElem?_eq_none (by omega)]
    rfl
theorem sortZ_mem {lt : List Int × Nat → List Int × Nat → Bool} {l : List (List Int)} {i : Nat} (hi : i ≤ l.length) {z : List Int × Nat} (h : z ∈ sortB lt l.zipIdx i) : l[z.2]? = some z.1 := by
 have h2 := (sortB_perm lt l.zipIdx i (by rw [List.length_zipIdx]; exact hi)).mem_iff.1 h
 exact List.mem_zipIdx_iff_getElem?.1 (List.mem_of_mem_take h2)
theorem sortZ_nodup {lt : List Int × Nat → List Int × Nat → Bool} {l : List (List Int)} {i : Nat} (hi : i ≤ l.length) : ((sortB lt l.zipIdx i).map (·.2)).Nodup := by
 have h := (sortB_perm lt l.zipIdx i (by rw [List.length_zipIdx]; exact hi)).map (·.2)
 refine h.nodup_iff.2 ?_
 rw [List.map_take, List.zipIdx_map_snd]
 exact (List.take_sublist _ _).nodup List.nodup_range'
end Go.Proofs.Ytnbljcgdgblgoaa.Cf
end

section
namespace Go.Proofs.Ytnbljcgdgblgoaa.P
open Go.RowKit Go.Proofs.YtnbljcgdgblgoaaW.PrintWords Go.Proofs.YtnbljcgdgblgoaaW.PrintLast Go.Proofs.YtnbljcgdgblgoaaW.PrintMore
attribute [local go_sem] max2_int min2_int max_two min_two max_three min_three max_four min_four
set_option linter.unusedVariables false
set_option linter.unusedSimpArgs false
def spec_l09Sort.lt (k : Nat) (x y : List Int) : Bool := spec_l09Less.f k x y == some true
def spec_l09Sort.f (k : Nat) (l : List (List Int)) : Option (List (List Int)) := if l.length ≤ 1000000 ∧ (∀ x ∈ l, ∀ y ∈ l, (spec_l09Less.f k x y).isSome = true) then some (Cf.sortB (spec_l09Sort.lt k) l l.length) else none
theorem spec_l09Sort.sort_congr {lt lt' : List Int → List Int → Bool} {l : List (List Int)} (h : ∀ x ∈ l, ∀ y ∈ l, lt x y = lt' x y) : ∀ i, i ≤ l.length → Cf.sortB lt l i = Cf.sortB lt' l i
 | 0, _ => rfl
 | i + 1, hi => by
  have ih := spec_l09Sort.sort_congr h i (by omega)
  rw [Cf.sortB_succ lt (List.getElem?_eq_getElem (show i < l.length by omega)), Cf.sortB_succ lt' (List.getElem?_eq_getElem (show i < l.length by omega)), ih]
  have hm : ∀ y ∈ Cf.sortB lt' l i, y ∈ l := fun y hy => List.mem_of_mem_take ((Cf.sortB_perm lt' l i (by omega)).mem_iff.1 hy)
  generalize Cf.sortB lt' l i = Z at hm
  have hk : ∀ k, Cf.kpos lt l[i] Z k = Cf.kpos lt' l[i] Z k := by
   intro k
   induction k with
   | zero => rfl
   | succ k ihk =>
    unfold Cf.kpos
    cases hz : Z[k]? with
    | none => rfl
    | some y => simp only [h _ (List.getElem_mem _) y (hm y (List.mem_of_getElem? hz)), ihk]
  unfold Cf.insB; rw [hk]
theorem spec_l09Sort.mono : ∀ a0 k, LeO (spec_l09Sort.f k a0) (spec_l09Sort.f (k + 1) a0) := by
 intro l k r h; unfold spec_l09Sort.f at h ⊢; (split at h); (case isFalse => cases h); rename_i hc
 have up : ∀ x ∈ l, ∀ y ∈ l, spec_l09Less.f (k + 1) x y = spec_l09Less.f k x y := fun x hx y hy => by
  obtain ⟨b, hb⟩ := Option.isSome_iff_exists.1 (hc.2 x hx y hy); rw [hb, spec_l09Less.mono _ _ k _ hb]
 rw [if_pos ⟨hc.1, fun x hx y hy => by rw [up x hx y hy]; exact hc.2 x hx y hy⟩, ← h]; (congr 1); exact spec_l09Sort.sort_congr (fun x hx y hy => by unfold spec_l09Sort.lt; rw [up x hx y hy]) _ (Nat.le_refl _)
theorem spec_l09Sort.callsS (k : Nat) (P0_ : Nat → Prop) (u9_ : Value) (l r : List (List Int)) (w0 w : World) (hB : Below w0.heap.size w0 w) (ho0 : Kd.S (Kd.slice 3 (Kd.int .i64)) 26 w w0.heap.size P0_ u9_ l) (h : spec_l09Sort.f k l = some r) :
  Calls Try.prog 59 #[u9_] w fun e w' => ∃ v0_ : Value, e = .returned (v0_) ∧ Kd.S (Kd.slice 3 (Kd.int .i64)) 26 w' w0.heap.size (fun k_ => P0_ k_ ∨ w.heap.size ≤ k_) v0_ r ∧ Below w.heap.size w w' := by
 unfold spec_l09Sort.f at h; (split at h); (case isFalse => cases h); rename_i hc; obtain rfl := Option.some.inj h; clear h; obtain ⟨A9, c9, e9⟩ := Kd.S_slice ho0; subst e9; obtain ⟨f, H, hH⟩ := Cf.heads_of ho0; have HB := zK_ hB; have HS := zK_ ho0; have HH := zK_ hH; have HLN := zK_ hc.1; have HLE := zK_ hc.2; (have hnb : (l.length : Int) ≤ 1000000 := by have := hc.1; omega); clear hB ho0 hH hc; go_enter Try.func59, Try.ntmps59; (go_wp2_with (first | ((with_reducible refine gate_dst (N := 7) rfl ?_); refine Kd.R_lit (w0 := w) Cf.HK w.heap.size 26 ?hg (N := 7) ?hd (xs := ([] : List (Option Addr × Nat × Nat))) (inner := []) (ok := fun _ => True) (okp := fun _ => True) ?hr ?hp (fun _ hk => hk) trivial (Below.refl _ _) (Nat.le_refl _) (by simp) ?_; (case hd => rfl); (case hg => rfl); (case hr => exact zz9); (case hp => exact (Reps.none _ _)); intro v7 w1 ho hb hg_ hnew_; have HO1 := zK_ ho; have HB1 := zK_ hb; clear ho hb hg_ hnew_))); (go_loopw [3, 10] (fun v3 v10 wr => ∃ i : Nat, v10 = .int .i64 (i : Int) ∧ Aside0 (i ≤ l.length) ∧ Aside0 (Below w.heap.size w wr) ∧ Aside0 (Kd.R Cf.HK 26 wr w.heap.size (fun _ => True) v3 ((Cf.sortB (fun a b : List Int × Nat => spec_l09Sort.lt k a.1 b.1) l.zipIdx i).map (fun z : List Int × Nat => H z.2)))) (fun _ v _ => l.length - (intOf v).toNat)); case atStart => exact ⟨0, rfl, ⟨Nat.zero_le _⟩, HB1, HO1⟩
 case round =>
  clear HO1 HB1; obtain ⟨i, rfl, HI, HBr, HR⟩ := hrel; by_cases hlt : i < l.length; rotate_left
  ·have c0_ : decide ((i : Int) < (l.length : Int)) = false := decide_eq_false (by omega); have c1_ : decide (i < l.length) = false := decide_eq_false hlt; (have hi : i = l.length := by have := HI.out; omega); subst hi; clear hlt; go_wp2; go_ret; have hsm := Cf.sortB_map (fun z : List Int × Nat => z.1) (spec_l09Sort.lt k) l.zipIdx l.length (by rw [List.length_zipIdx]; exact Nat.le_refl _); rw [List.zipIdx_map_fst] at hsm; have hfinal := Cf.HK_S (f := f) (H := H) (ok := P0_) (Kd.R_lower (Kd.R_mono (Kd.R_bound HR.out) (ok' := fun k_ => w.heap.size ≤ k_) fun k_ hk => hk.2.1) HB.out.size) (Cf.sortZ_nodup (Nat.le_refl _)) (fun z hz => Kd.R_below (HH.out z.2 z.1 (Cf.sortZ_mem (Nat.le_refl _) hz)).1 HBr.out); rw [hsm] at hfinal; exact ⟨_, rfl, Kd.S_mono hfinal (fun k_ h => h.symm), HBr.out⟩
  have c0_ : decide ((i : Int) < (l.length : Int)) = true := decide_eq_true (by omega); have c1_ : decide (i < l.length) = true := decide_eq_true hlt; (have p1 : (0 : Int) ≤ (i : Int) := by omega); (have p2 : (i : Int) < (l.length : Int) := by omega); (have hib : (i : Int) ≤ 1000000 := by omega); obtain ⟨g0, cap0, eg, _⟩ := Kd.S_form HS.out (by omega); injection eg with eA _ eC; subst eA; subst eC; obtain ⟨x, hxi⟩ : ∃ x, l[i]? = some x := ⟨_, List.getElem?_eq_getElem hlt⟩; obtain ⟨hRx, hcx⟩ := HH.out i x hxi; have hcx1 := hcx g0 rfl; obtain ⟨Ax, cx, ex⟩ := Kd.R_slice hRx; have HRX := zK_ hRx; (have hcell : wr.cell? ⟨g0, i, none⟩ = some (.slice Ax x.length cx) := by rw [(HBr.out.cell (World.block_lt_of_cell? w _ hcx1)).trans hcx1, ex]); have HEX := zK_ ex; have hZl : (Cf.sortB (fun a b : List Int × Nat => spec_l09Sort.lt k a.1 b.1) l.zipIdx i).length = i := Cf.sortB_len _ _ i (by rw [List.length_zipIdx]; omega); have HZL := zK_ hZl; have HXI := zK_ hxi; have HLT := zK_ hlt; have HZS := zK_ (Cf.sortB_succ (fun a b : List Int × Nat => spec_l09Sort.lt k a.1 b.1) (l := l.zipIdx) (i := i) (x := (x, i)) (by rw [List.getElem?_zipIdx, hxi, Nat.zero_add]; rfl)); have HMEM := zK_ (show ∀ z ∈ (Cf.sortB (fun a b : List Int × Nat => spec_l09Sort.lt k a.1 b.1) l.zipIdx i), l[z.2]? = some z.1 from fun z hz => Cf.sortZ_mem (by omega) hz); clear hRx hcx hcx1 ex hZl hxi hlt; generalize (Cf.sortB (fun a b : List Int × Nat => spec_l09Sort.lt k a.1 b.1) l.zipIdx i) = Z at HR HZL HZS HMEM; (go_upto_region 6 with (first | ((with_reducible refine gate_builtin (b := .append) (xs := #[.tmp 14, .tmp 15]) rfl ?_); at_builtin; refine Kd.R_append Cf.HK (w0 := w) w.heap.size rfl (.tmp 14) (.tmp 15) 34 26 (.slice none 0 0) 24 rfl Try.underlying34 info26 rfl (by decide) (by omega) u3 (Z.map (fun z : List Int × Nat => H z.2)) (none, 0, 0) [.slice none 0 0] (fun _ => True) (fun _ => False) rfl rfl rfl (fun _ hk => hk.elim) (fun _ _ => trivial) HR.out HBr.out (below_size HBr.out) (by have := HZL.out; have := HLN.out; have := HI.out; rw [List.length_map]; omega) ?_; intro vC wC ho hb hg hat; have HOC := zK_ ho; have HBC := zK_ hb; clear ho hb hg hat))); have hfm := HOC.out; (have hlen1 : (Z.map (fun z : List Int × Nat => H z.2) ++ [((none, 0, 0) : Option Addr × Nat × Nat)]).length = i + 1 := by rw [List.length_append, List.length_map, HZL.out]; rfl); obtain ⟨g, cap, eC, hgb, _⟩ := Kd.R_form hfm (by rw [hlen1]; omega); subst eC; have HGB := zK_ hgb; obtain ⟨m1, hm1⟩ : ∃ m1 : Nat, i + 1 = m1 := ⟨_, rfl⟩; have HM1 := zK_ hm1; rw [hlen1, hm1] at hfm; rw [hlen1, hm1]; have HO2 := zK_ hfm; obtain ⟨ki, eki⟩ : ∃ z : Int, wrap64 ((m1 : Int) - 1) = z := ⟨_, rfl⟩; have ekiw : IntKind.i64.wrap ((m1 : Int) - 1) = ki := (i64_w _).trans eki; have HKI := zK_ (show ki = (i : Int) from by rw [← eki]; unfold wrap64; omega); (have hm1b : (m1 : Int) ≤ 1000001 := by omega); clear hfm hgb hm1 HOC HR hcell hlen1; (try go_wp2); go_loopw [6] (fun v6 wr => ∃ (kk : Nat) (hk : List (Option Addr × Nat × Nat)), v6 = .int .i64 (kk : Int) ∧ Aside0 (kk ≤ i ∧ Cf.kpos (fun a b : List Int × Nat => spec_l09Sort.lt k a.1 b.1) (x, i) Z Z.length = Cf.kpos (fun a b : List Int × Nat => spec_l09Sort.lt k a.1 b.1) (x, i) Z kk) ∧ Aside0 (Below w.heap.size w wr) ∧ Aside0 (Kd.R Cf.HK 26 wr w.heap.size (fun _ => True) (.slice (some ⟨g, 0, none⟩) m1 cap) hk ∧ hk.length = i + 1) ∧ Aside0 ((∀ t, t < kk → hk[t]? = (Z[t]?).map (fun z : List Int × Nat => H z.2)) ∧ (∀ t, kk < t → t ≤ i → hk[t]? = (Z[t - 1]?).map (fun z : List Int × Nat => H z.2)))) (fun v _ => (intOf v).toNat)
  case atStart =>
   refine ⟨i, Z.map (fun z : List Int × Nat => H z.2) ++ [(none, 0, 0)], by rw [HKI.out], ⟨Nat.le_refl _, by rw [HZL.out]⟩, HBC, ⟨HO2.out, by rw [List.length_append, List.length_map, HZL.out]; rfl⟩, ⟨fun t ht => ?_, fun t h1 h2 => by omega⟩⟩; rw [List.getElem?_append_left (by rw [List.length_map, HZL.out]; exact ht), List.getElem?_map]
  case round =>
   clear HO2 HBC eki ekiw; obtain ⟨kk, hk, rfl, HK, HBk, HRk, HHk⟩ := hrel; (have hkb : (kk : Int) ≤ 1000000 := by have := HK.out; omega); (have hkm : (kk : Int) < (m1 : Int) := by have := HK.out; have := HM1.out; omega); (have hk0 : (0 : Int) ≤ (kk : Int) := by omega); obtain ⟨hmk, hmf⟩ := Kd.R_celln (none, 0, 0) HRk.out.1 (kk : Int) hk0 hkm; rw [Int.toNat_natCast] at hmk hmf; by_cases hkz : kk = 0
   ·subst hkz; have c4_ : decide (((0 : Nat) : Int) > 0) = false := rfl; (have hfin : Cf.insB (fun a b : List Int × Nat => spec_l09Sort.lt k a.1 b.1) (x, i) Z = Z.take 0 ++ (x, i) :: Z.drop 0 := by unfold Cf.insB; rw [HK.out.2, show Cf.kpos _ (x, i) Z 0 = 0 from rfl]); have hput := Kd.R_putg HRk.out.1 ((0 : Nat) : Int) (H i); rw [Int.toNat_natCast, HEX.out] at hput; have hset := Cf.ins_set (fun z : List Int × Nat => H z.2) (Z := Z) (hk := hk) (k := 0) (x, i) (by rw [HRk.out.2, HZL.out]) (by rw [HZL.out]; exact HK.out.1) HHk.out.1 (fun t h1 h2 => HHk.out.2 t h1 (by rw [HZL.out] at h2; exact h2)); have HPUT := zK_ hput.1; have HSET := zK_ hset; have HFIN := zK_ hfin; clear hput hset hfin; go_wp2; go_roundw
    case rel =>
     refine ⟨i + 1, by go_num, ⟨HLT.out⟩, ⟨below_set HBk.out HGB.out⟩, ⟨?_⟩⟩; rw [HZS.out, HFIN.out, ← HSET.out]; exact HPUT.out
    case measure =>
     have := HLT.out; (simp [intOf]); omega
   obtain ⟨k1, rfl⟩ : ∃ k1, kk = k1 + 1 := ⟨kk - 1, by omega⟩; (have hk1i : k1 < i := by have := HK.out; omega); obtain ⟨z, hz⟩ : ∃ z, Z[k1]? = some z := ⟨_, List.getElem?_eq_getElem (show k1 < Z.length by rw [HZL.out]; exact hk1i)⟩; have hzm := HMEM.out z (List.mem_of_getElem? hz); obtain ⟨hRz, _⟩ := HH.out z.2 z.1 hzm; obtain ⟨Az, cz, ez⟩ := Kd.R_slice hRz; obtain ⟨b, hb⟩ := Option.isSome_iff_exists.1 (HLE.out x (List.mem_of_getElem? HXI.out) z.1 (List.mem_of_getElem? hzm)); generalize hkk : k1 + 1 = kk at hmk hmf hkb hkm hk0 HK HHk ⊢; have c4_ : decide ((kk : Int) > 0) = true := decide_eq_true (by omega); have c5_ : decide (0 < kk) = true := decide_eq_true (by omega); obtain ⟨kz, ekz⟩ : ∃ y : Int, wrap64 ((kk : Int) - 1) = y := ⟨_, rfl⟩; have ekzw : IntKind.i64.wrap ((kk : Int) - 1) = kz := (i64_w _).trans ekz; (have hkz2 : kz = (k1 : Int) := by rw [← ekz]; unfold wrap64; omega); (have q1 : (0 : Int) ≤ kz := by omega); (have q2 : kz < (m1 : Int) := by omega); obtain ⟨hmz, hmzf⟩ := Kd.R_celln (none, 0, 0) HRk.out.1 kz q1 q2; (have hrd : rdOf ((none, 0, 0) : Option Addr × Nat × Nat) hk kz = H z.2 := by unfold rdOf; rw [hkz2, Int.toNat_natCast, List.getD_eq_getElem?_getD, HHk.out.1 k1 (by omega), hz]; rfl); rw [hrd, ez] at hmz; have HZ1 := zK_ hz; have HKK := zK_ hkk; have HKZ := zK_ hkz2; have HEZ := zK_ ez; have HLB := zK_ hb; have HRZ := zK_ (Kd.R_reads' (ez ▸ hRz)); have HRX2 := zK_ (Kd.R_reads' (HEX.out ▸ HRX.out)); clear hz hzm hRz hb hkk hkz2 hmzf hrd ez hkz hk1i; (go_wp2_with fail); refine (spec_l09Less.calls k _ _ x _ _ z.1 b _ (Kd.C_below HRX2.out.2.2 HBk.out) HRX2.out.2.1 (Kd.C_below HRZ.out.2.2 HBk.out) HRZ.out.2.1 HLB.out).mono ?_; rintro e w5 ⟨rfl, hd⟩; have hdb := Drawn0.below hd; have HB5 := zK_ (below_step HBk.out hdb); have HR5 := zK_ (show Kd.R Cf.HK 26 w5 w.heap.size (fun _ => True) (.slice (some ⟨g, 0, none⟩) m1 cap) hk ∧ hk.length = i + 1 from ⟨Kd.R_below HRk.out.1 hdb, HRk.out.2⟩); clear hd hdb hmk hmf hmz HBk HRk; obtain ⟨hmk, hmf⟩ := Kd.R_celln (none, 0, 0) HR5.out.1 (kk : Int) hk0 hkm; rw [Int.toNat_natCast] at hmk hmf; obtain ⟨hmz, hmzf⟩ := Kd.R_celln (none, 0, 0) HR5.out.1 kz q1 q2; (have hrd : rdOf ((none, 0, 0) : Option Addr × Nat × Nat) hk kz = H z.2 := by unfold rdOf; rw [HKZ.out, Int.toNat_natCast, List.getD_eq_getElem?_getD, HHk.out.1 k1 (by have := HKK.out; omega), HZ1.out]; rfl); rw [hrd, HEZ.out] at hmz; (have hkp : Cf.kpos (fun a b : List Int × Nat => spec_l09Sort.lt k a.1 b.1) (x, i) Z kk = if b = true then Cf.kpos (fun a b : List Int × Nat => spec_l09Sort.lt k a.1 b.1) (x, i) Z k1 else kk := by rw [← HKK.out, Cf.kpos_at _ _ HZ1.out]; show (if spec_l09Sort.lt k x z.1 = true then _ else _) = _; unfold spec_l09Sort.lt; rw [HLB.out]; cases b <;> rfl); have HKP := zK_ hkp; have HRD := zK_ hrd; clear hkp hrd hmzf; have HRk := HR5; have HBk := HB5
   cases b with
   | false =>
    (have hfin : Cf.insB (fun a b : List Int × Nat => spec_l09Sort.lt k a.1 b.1) (x, i) Z = Z.take kk ++ (x, i) :: Z.drop kk := by unfold Cf.insB; rw [HK.out.2, HKP.out, if_neg (by simp)]); have hput := Kd.R_putg HRk.out.1 (kk : Int) (H i); rw [Int.toNat_natCast, HEX.out] at hput; have hset := Cf.ins_set (fun z : List Int × Nat => H z.2) (Z := Z) (hk := hk) (k := kk) (x, i) (by rw [HRk.out.2, HZL.out]) (by rw [HZL.out]; exact HK.out.1) HHk.out.1 (fun t h1 h2 => HHk.out.2 t h1 (by rw [HZL.out] at h2; exact h2)); have HPUT := zK_ hput.1; have HSET := zK_ hset; have HFIN := zK_ hfin; clear hput hset hfin; go_wp2; go_roundw
    case rel =>
     refine ⟨i + 1, by go_num, ⟨HLT.out⟩, ⟨below_set HBk.out HGB.out⟩, ⟨?_⟩⟩; rw [HZS.out, HFIN.out, ← HSET.out]; exact HPUT.out
    case measure =>
     have := HLT.out; (simp [intOf]); omega
   | true =>
    have hput := Kd.R_putg HR5.out.1 (kk : Int) (H z.2); rw [Int.toNat_natCast, HEZ.out] at hput; have HPUT := zK_ hput.1; clear hput; go_wp2; go_roundw
    case rel =>
     refine ⟨k1, hk.set kk (H z.2), by rw [HKZ.out], ⟨by have := HK.out; have := HKK.out; omega, by rw [HK.out.2, HKP.out]; simp⟩, ⟨below_set HB5.out HGB.out⟩, ⟨HPUT.out, by rw [List.length_set]; exact HR5.out.2⟩, ⟨fun t ht => ?_, fun t h1 h2 => ?_⟩⟩
     ·rw [List.getElem?_set_ne (by have := HKK.out; omega)]; exact HHk.out.1 t (by have := HKK.out; omega)
     ·by_cases e : t = kk
      ·subst e; rw [List.getElem?_set_self (by have := HR5.out.2; omega), show t - 1 = k1 by have := HKK.out; omega, HZ1.out]; rfl
      ·rw [List.getElem?_set_ne (by omega)]; exact HHk.out.2 t (by have := HKK.out; omega) h2
    case measure =>
     have := HKZ.out; have := HKK.out; (simp [intOf]); omega
mutual
def spec_l05Burn.l0 : Nat → List Int → List Int → List Bool → Int → List (S57) → Option (List Int)
 | 0, _, _, _, _, _ => none
 | k + 1, x1, x7, x8, aM, aJ => spec_l05Burn.l1 k x1 x7 x8 (-1) (wrap64 (aM - 1)) aM aJ
def spec_l05Burn.l1 : Nat → List Int → List Int → List Bool → Int → Int → Int → List (S57) → Option (List Int)
 | 0, _, _, _, _, _, _, _ => none
 | k + 1, x1, x7, x8, x9, fE, aM, aJ => if fE ≥ 0 then (spec_l05Burn.l2 k x1 x7 x8 x9 fE 0 0 aM aJ) else (if x9 < 0 then (some x7) else (if 0 ≤ x9 then (if x9 < (x8.length : Int) then (if x7.length < 17592186044416 then (spec_l05Burn.l0 k x1 (x7 ++ [x9]) (x8.set (x9 : Int).toNat true) aM aJ) else (none)) else (none)) else (none)))
def spec_l05Burn.l2 : Nat → List Int → List Int → List Bool → Int → Int → Int → Int → Int → List (S57) → Option (List Int)
 | 0, _, _, _, _, _, _, _, _, _ => none
 | k + 1, x1, x7, x8, x9, fE, eH, jV, aM, aJ => if jV < aM then (if 0 ≤ jV then (if jV < (x8.length : Int) then (if rdOf false x8 jV = true then ((spec_Multiplicity.f k aM aJ fE jV).bind fun oA => (spec_l05Burn.l2 k x1 x7 x8 x9 fE (wrap64 (eH + oA)) (wrap64 (jV + 1)) aM aJ)) else (spec_l05Burn.l2 k x1 x7 x8 x9 fE eH (wrap64 (jV + 1)) aM aJ)) else (none)) else (none)) else (if 0 ≤ fE then (if fE < (x8.length : Int) then (if rdOf false x8 fE = true then (spec_l05Burn.l1 k x1 x7 x8 x9 (wrap64 (fE - 1)) aM aJ) else (if fE < (x1.length : Int) then (if (rd x1 fE) < eH then (spec_l05Burn.l1 k x1 x7 x8 fE (wrap64 (fE - 1)) aM aJ) else (spec_l05Burn.l1 k x1 x7 x8 x9 (wrap64 (fE - 1)) aM aJ)) else (none))) else (none)) else (none))
end
def spec_l05Burn.f (k : Nat) (aD : Int) (aC : List (S57)) (l1 : List Int) (a2 : Int) : Option (List Int) := if 0 ≤ aD then (if (aD : Int).toNat ≤ 281474976710656 then ((some (List.replicate (aD : Int).toNat false : List Bool)).bind fun eI => (if 0 ≤ a2 then (if a2 < (eI.length : Int) then (spec_l05Burn.l0 k l1 (([a2] : List Int)) (eI.set (a2 : Int).toNat true) aD aC) else (none)) else (none))) else (none)) else (none)
theorem spec_l05Burn.mono_l : ∀ k, (∀ y0 y1 y2 y3 y4, LeO (spec_l05Burn.l0 k y0 y1 y2 y3 y4) (spec_l05Burn.l0 (k + 1) y0 y1 y2 y3 y4)) ∧ (∀ y0 y1 y2 y3 y4 y5 y6, LeO (spec_l05Burn.l1 k y0 y1 y2 y3 y4 y5 y6) (spec_l05Burn.l1 (k + 1) y0 y1 y2 y3 y4 y5 y6)) ∧ (∀ y0 y1 y2 y3 y4 y5 y6 y7 y8, LeO (spec_l05Burn.l2 k y0 y1 y2 y3 y4 y5 y6 y7 y8) (spec_l05Burn.l2 (k + 1) y0 y1 y2 y3 y4 y5 y6 y7 y8))
 | 0 => ⟨fun _ _ _ _ _ r h => by simp [spec_l05Burn.l0] at h, fun _ _ _ _ _ _ _ r h => by simp [spec_l05Burn.l1] at h, fun _ _ _ _ _ _ _ _ _ r h => by simp [spec_l05Burn.l2] at h⟩
 | k + 1 => by
  obtain ⟨ih0, ih1, ih2⟩ := spec_l05Burn.mono_l k
  refine ⟨?_, ?_, ?_⟩
  ·intro y0 y1 y2 y3 y4
   unfold spec_l05Burn.l0
   exact zm3
  ·intro y0 y1 y2 y3 y4 y5 y6
   unfold spec_l05Burn.l1
   exact zm3
  ·intro y0 y1 y2 y3 y4 y5 y6 y7 y8
   unfold spec_l05Burn.l2
   exact zm3
theorem spec_l05Burn.mono : ∀ a0 a1 a2 a3 k, LeO (spec_l05Burn.f k a0 a1 a2 a3) (spec_l05Burn.f (k + 1) a0 a1 a2 a3) := by
 intro a0 a1 a2 a3 k; obtain ⟨ih0, ih1, ih2⟩ := spec_l05Burn.mono_l k; unfold spec_l05Burn.f; exact zm3
theorem spec_l05Burn.calls (k : Nat) (aD : Int) (aH : Option Addr) (aG : Nat) (aC : List (S57)) (A1 : Option Addr) (c1 : Nat) (l1 : List Int) (a2 : Int) (r : List Int) (w : World) (hr0_1 : Kd.C k57 w aH aC.length aC) (hc0_1 : aC.length ≤ aG) (hr1 : Kd.C (Kd.int .i64) w A1 l1.length l1) (hc1 : l1.length ≤ c1) (h : spec_l05Burn.f k aD aC l1 a2 = some r) :
  Calls Try.prog 95 #[.agg #[.int .i64 aD, .slice aH aC.length aG], .slice A1 l1.length c1, .int .i64 a2] w fun e w' => ∃ v0_ : Value, e = .returned (v0_) ∧ Kd.R (Kd.int .i64) 3 w' w.heap.size (fun _ => True) v0_ r ∧ Below w.heap.size w w' := by
 have hu25 := Try.underlying25; have bM := zK_ hr0_1; have bG := zK_ hc0_1; clear hr0_1 hc0_1; have HR1 := zK_ hr1; have HC1 := zK_ hc1; clear hr1 hc1; have HB := zK_ (Below.refl w.heap.size w); have H : (if 0 ≤ aD then (if (aD : Int).toNat ≤ 281474976710656 then ((some (List.replicate (aD : Int).toNat false : List Bool)).bind fun eI => (if 0 ≤ a2 then (if a2 < (eI.length : Int) then (spec_l05Burn.l0 k l1 (([a2] : List Int)) (eI.set (a2 : Int).toNat true) aD aC) else (none)) else (none))) else (none)) else (none)) = some r := h; clear h; obtain ⟨i2, hy_⟩ : ∃ y_ : List Int, y_ = (([a2] : List Int)) := ⟨_, rfl⟩; (replace H : (if 0 ≤ aD then (if (aD : Int).toNat ≤ 281474976710656 then ((some (List.replicate (aD : Int).toNat false : List Bool)).bind fun eI => (if 0 ≤ a2 then (if a2 < (eI.length : Int) then (spec_l05Burn.l0 k l1 i2 (eI.set (a2 : Int).toNat true) aD aC) else (none)) else (none))) else (none)) else (none)) = some r := zzY); have gT := zK_ hy_; clear hy_; by_cases c4 : 0 ≤ aD; rotate_left
 ·rw [if_neg c4] at H; exact absurd H (by simp)
 rw [if_pos c4] at H; have cY := eq_true c4; have jS : decide (0 ≤ aD) = true := decide_eq_true c4; clear c4; by_cases c5 : (aD : Int).toNat ≤ 281474976710656; rotate_left
 ·rw [if_neg c5] at H; exact absurd H (by simp)
 rw [if_pos c5] at H; have dF := eq_true c5; have kJ : decide ((aD : Int).toNat ≤ 281474976710656) = true := decide_eq_true c5; clear c5; obtain ⟨eI, hy_⟩ : ∃ y_ : List Bool, y_ = (List.replicate (aD : Int).toNat false) := ⟨_, rfl⟩; (replace H : (if 0 ≤ a2 then (if a2 < (eI.length : Int) then (spec_l05Burn.l0 k l1 i2 (eI.set (a2 : Int).toNat true) aD aC) else (none)) else (none)) = some r := zzY); have iJ := zK_ hy_; clear hy_; by_cases c6 : 0 ≤ a2; rotate_left
 ·rw [if_neg c6] at H; exact absurd H (by simp)
 rw [if_pos c6] at H; have eN := decide_eq_true c6; clear c6; by_cases c7 : a2 < (eI.length : Int); rotate_left
 ·rw [if_neg c7] at H; exact absurd H (by simp)
 rw [if_pos c7] at H; have dL := decide_eq_true c7; clear c7; obtain ⟨q4, hy_⟩ : ∃ y_ : List Bool, y_ = (eI.set (a2 : Int).toNat true) := ⟨_, rfl⟩; (replace H : (spec_l05Burn.l0 k l1 i2 q4 aD aC) = some r := zzY); have tL := zK_ hy_; clear hy_; have H' := zK_ H; clear H; go_enter Try.func95, Try.ntmps95; (go_wp2_with (first | ((with_reducible refine gate_dst (N := 3) rfl ?_); refine box_event ?hg (N := 3) ?hd (cs := #[.int .i64 aD, .slice aH aC.length aG]) (t := 25) ?hr ?_; (case hd => rfl); (case hg => rfl); (case hr => exact zz9); intro aE hg w9 hbox hb; have n_ := zA4 (below_step zz1 hb) hbox (zz10 : w.heap.size ≤ aE) (zz10 : w.heap.size ≤ aE); clear HB; obtain ⟨HB, aA, GW101, GE101⟩ := n_; clear hb hbox hg) | ((with_reducible refine gate_dst (N := 14) rfl ?_); refine Kd.R_lit (Kd.int .i64) _ 3 ?hg (N := 14) ?hd (xs := ([a2] : List Int)) (inner := [.int .i64 a2]) (ok := fun _ => True) (okp := fun _ => True) ?hr ?hp (fun _ hk => hk) trivial (Below.refl _ _) (Nat.le_refl _) (by simp) ?_; (case hd => rfl); (case hg => rfl); (case hr => exact zz9); (case hp => exact (Reps.one (show Kd.M (Kd.int .i64) _ _ _ a2 [.int .i64 a2] from rfl) (Reps.none _ _))); intro v103 w10 ho11 hb hg_ hnew_; clear hg_ hnew_; (first | rw [← gT.out] at ho11 | (simp only [Int.reduceToNat] at ho11; rw [← gT.out] at ho11)); have n_ := zA3 (Kd.R_lower ho11 (below_size zz0)) (blk_below (g := aE) (o := .cells #[.int .i64 aD, .slice aH aC.length aG] 25 (0, 0)) zz2 hb) (below_step zz0 hb); clear aA HB; obtain ⟨dT, aA, HB⟩ := n_; clear hb ho11; have fV := zC20 aA; have fU := zC21 aA; have fT := blk_frozen aA.out 0; have fS := blk_frozen aA.out 1) | ((with_reducible refine gate_dst (N := 17) rfl ?_); refine Kd.R_make Kd.bool _ 4 rfl (N := 17) rfl 92 _ _ rfl aD rfl rfl Try.underlying92 (.bool false) 1 info4 rfl (by decide) (by omega) false (ok := fun _ => True) (okp := fun _ => True) rfl (fun _ hk => hk) trivial (of_decide_eq_true zz3) (Nat.le_trans (Nat.mul_le_mul_right _ (of_decide_eq_true zz3 : aD.toNat ≤ 281474976710656)) (by omega)) (Below.refl _ _) (Nat.le_refl _) ?_; intro v106 w13 ho14 hb hg_ hnew_; clear hg_ hnew_; (first | rw [← iJ.out] at ho14 | (simp only [Int.reduceToNat] at ho14; rw [← iJ.out] at ho14)); have n_ := zA4 (Kd.R_below zz43 hb) (Kd.R_lower ho14 (below_size zz0)) (blk_below (g := aE) (o := .cells #[.int .i64 aD, .slice aH aC.length aG] 25 (0, 0)) zz2 hb) (below_step zz0 hb); clear dT aA HB; obtain ⟨dT, eM, aA, HB⟩ := n_; clear hb ho14; have p8 : 0 ≤ (a2 : Int) := of_decide_eq_true zz3; have q8 : (a2 : Int) < ((eI.length : Int) : Int) := of_decide_eq_true zz3; obtain ⟨go8, co8, sJ, sE, gl8, cl8, HG8⟩ := Kd.R_form eM.out (by omega); (first | cases sJ | (injection sJ with ea_ en_ ec_; (first | subst ea_ | (injection ea_ with ea_; subst ea_)); subst ec_; clear en_)); have vZ := zK_ sE; have BV := zK_ HG8; clear sE gl8 HG8; obtain ⟨kT, o2⟩ := Kd.R_celln false eM.out (a2 : Int) p8 q8; replace p8 := eq_true p8; replace q8 := eq_true q8; obtain ⟨hy15_, hz15_⟩ := Kd.R_celln false eM.out (a2 : Int) (of_decide_eq_true zz3) (of_decide_eq_true zz3); have rP := Kd.R_putg eM.out (a2 : Int) true) | ((with_reducible refine gate_store (t := 4) (p := 20) rfl ?_); refine store_event (t := 4) (p := 20) (v := ?vo_w16) (w1 := (w13.setCell ⟨go8, (a2 : Int).toNat, none⟩ (.bool true))) ?hg ?ho ?hn ?hr ?_; (case ho => rfl); (case hg => rfl); (case hn => rfl); (case hr => exact zz9); intro w16 hw; have hg : w13.grownBy w16 (some go8) := (by rw [hw]; exact rP.2); have hp_ : Kd.R Kd.bool 4 w16 w.heap.size (fun _ => True) (.slice (some ⟨go8, 0, none⟩) eI.length co8) q4 := (by rw [hw, tL.out]; exact rP.1); clear rP; have n_ := zA4 (blk_grown (g := aE) (o := .cells #[.int .i64 aD, .slice aH aC.length aG] 25 (0, 0)) zz2 hg (Kd.R_ne eM.out aA.out (by decide))) (Kd.R_over' (v := (.slice (some ⟨go8, 0, none⟩) eI.length co8)) zz43 (Kd.R_typed eM.out) (by decide) hg) hp_ (by rw [hw]; exact below_set (HB.out) vZ.out : Below w.heap.size w w16); clear aA dT eM HB; obtain ⟨aA, dT, eM, HB⟩ := n_; clear hg hw hp_))); (go_loopg [7] k (fun kq v7 w' => ∃ (b8 : List Int) (bK : List Bool), Aside0 (spec_l05Burn.l0 kq l1 b8 bK aD aC = some r) ∧ Aside0 (kq ≤ k) ∧ Aside0 (Kd.R (Kd.int .i64) 3 w' w.heap.size (fun _ => True) v7 b8) ∧ Aside0 (Kd.R Kd.bool 4 w' w.heap.size (fun _ => True) (.slice (some ⟨go8, 0, none⟩) eI.length co8) bK) ∧ Aside0 (w'.heap[aE]? = some (.cells #[.int .i64 aD, (.slice aH aC.length aG)] 25 (0, 0))) ∧ Aside0 (Below w.heap.size w w'))); case atStart => exact ⟨(i2), (q4), H', ⟨Nat.le_refl _⟩, ⟨by (with_reducible repeat (first | apply Kd.R_alloc | apply Kd.R_drewN | apply Kd.R_drew)); exact dT.out⟩, ⟨by (with_reducible repeat (first | apply Kd.R_alloc | apply Kd.R_drewN | apply Kd.R_drew)); exact eM.out⟩, ⟨zz2⟩, ⟨zz0⟩⟩
 case round =>
  clear H'; (try clear c1); (try clear p2); (try clear c4); (try clear cY); (try clear jS); (try clear c5); (try clear dF); (try clear kJ); (try clear c6); (try clear eN); (try clear c7); (try clear dL); (try clear p8); (try clear q8); (try clear hx8); (try clear hf8); (try clear c9); (try clear fV); (try clear fU); (try clear fT); (try clear fS); (try clear kT); (try clear p8); (try clear q8); obtain ⟨b8, bK, HA, HK1, f2, gP, aA, HB⟩ := hrel; have fY := (Kd.R_reads' gP.out).1; rw [fY] at gP; (try simp only [fY]); (try simp only [fY] at aA); (try simp only [fY] at f2)
  cases gk with
  | zero => exact absurd HA.out (by simp [spec_l05Burn.l0])
  | succ k1 =>
   have H := HA.out; clear HA; simp only [spec_l05Burn.l0] at H; have H' := zK_ H; clear H; have iR := zC20 aA; have iQ := zC21 aA; have iN := blk_frozen aA.out 0; have iM := blk_frozen aA.out 1; go_wp2; (go_loopg [9, 10] k1 (fun kq v9 v10 w' => ∃ (cW : Int) (cE : Int), v9 = .int .i64 cW ∧ v10 = .int .i64 cE ∧ Aside0 (spec_l05Burn.l1 kq l1 b8 bK cW cE aD aC = some r) ∧ Aside0 (kq ≤ k1) ∧ Aside0 (Kd.R (Kd.int .i64) 3 w' w.heap.size (fun _ => True) u7 b8) ∧ Aside0 (Kd.R Kd.bool 4 w' w.heap.size (fun _ => True) (.slice (some ⟨go8, 0, none⟩) bK.length co8) bK) ∧ Aside0 (w'.heap[aE]? = some (.cells #[.int .i64 aD, (.slice aH aC.length aG)] 25 (0, 0))) ∧ Aside0 (Below w.heap.size w w'))); case atStart => exact ⟨((-1)), (wrap64 (aD - 1)), zz5, zz5, H', ⟨Nat.le_refl _⟩, ⟨zz33⟩, ⟨zz29⟩, ⟨zz27⟩, ⟨zz0⟩⟩
   case round =>
    clear H'; (try clear c1); (try clear p2); (try clear c4); (try clear cY); (try clear jS); (try clear c5); (try clear dF); (try clear kJ); (try clear c6); (try clear eN); (try clear p6); (try clear c7); (try clear dL); (try clear p8); (try clear q8); (try clear hx8); (try clear hf8); (try clear c9); (try clear fV); (try clear fU); (try clear iR); (try clear iQ); (try clear fT); (try clear fS); (try clear iN); (try clear iM); (try clear kT); (try clear p2); (try clear p8); (try clear q8); obtain ⟨cW, cE, rfl, rfl, HA, HK2, f2, gP, aA, HB⟩ := hrel
    cases gk with
    | zero => exact absurd HA.out (by simp [spec_l05Burn.l1])
    | succ k2 =>
     have H := HA.out; clear HA; simp only [spec_l05Burn.l1] at H; by_cases c18 : cE ≥ 0; rotate_left
     ·rw [if_neg c18] at H; have iD : decide (0 ≤ cE) = false := decide_eq_false c18; clear c18; by_cases c37 : cW < 0
      ·rw [if_pos c37] at H; have sV := decide_eq_true c37; clear c37; obtain rfl := Option.some.inj H; go_wp2; go_ret; exact ⟨_, zz7, zz25, zz0⟩
      rw [if_neg c37] at H; have sV := decide_eq_false c37; clear c37; by_cases c38 : 0 ≤ cW; rotate_left
      ·rw [if_neg c38] at H; exact absurd H (by simp)
      rw [if_pos c38] at H; have BF := decide_eq_true c38; clear c38; by_cases c39 : cW < (bK.length : Int); rotate_left
      ·rw [if_neg c39] at H; exact absurd H (by simp)
      rw [if_pos c39] at H; have sU := decide_eq_true c39; (try (have mD := sU; first | rw [fY] at mD | rw [← fY] at mD)); clear c39; obtain ⟨bZ, hy_⟩ : ∃ y_ : List Bool, y_ = (bK.set (cW : Int).toNat true) := ⟨_, rfl⟩; (replace H : (if b8.length < 17592186044416 then (spec_l05Burn.l0 k2 l1 (b8 ++ [cW]) bZ aD aC) else (none)) = some r := zzY); have fZ := zK_ hy_; clear hy_; by_cases c41 : b8.length < 17592186044416; rotate_left
      ·rw [if_neg c41] at H; exact absurd H (by simp)
      rw [if_pos c41] at H; have tM := zK_ c41; clear c41; obtain ⟨oE, hy_⟩ : ∃ y_ : List Int, y_ = (b8 ++ [cW]) := ⟨_, rfl⟩; (replace H : (spec_l05Burn.l0 k2 l1 oE bZ aD aC) = some r := zzY); have pN := zK_ hy_; clear hy_; have H' := zK_ H; clear H; have p40 : 0 ≤ (cW : Int) := of_decide_eq_true zz3; have q40 : (cW : Int) < ((bK.length : Int) : Int) := of_decide_eq_true zz3; obtain ⟨wH, xU⟩ := Kd.R_celln false gP.out (cW : Int) p40 q40; replace p40 := eq_true p40; replace q40 := eq_true q40; have rL := Kd.R_putg gP.out (cW : Int) true; (go_wp2_with (first | ((with_reducible refine gate_store (t := 4) (p := 63) rfl ?_); refine store_event (t := 4) (p := 63) (v := ?vo_w43) (w1 := (wr.setCell ⟨go8, (cW : Int).toNat, none⟩ (.bool true))) ?hg ?ho ?hn ?hr ?_; (case ho => rfl); (case hg => rfl); (case hn => rfl); (case hr => exact zz9); intro w43 hw; have hg : wr.grownBy w43 (some go8) := (by rw [hw]; exact rL.2); have hp_ : Kd.R Kd.bool 4 w43 w.heap.size (fun _ => True) (.slice (some ⟨go8, 0, none⟩) bK.length co8) bZ := (by rw [hw, fZ.out]; exact rL.1); clear rL; have n_ := zA4 (Kd.R_over' (v := (.slice (some ⟨go8, 0, none⟩) bK.length co8)) zz25 (Kd.R_typed gP.out) (by decide) hg) hp_ (blk_grown (g := aE) (o := .cells #[.int .i64 aD, .slice aH aC.length aG] 25 (0, 0)) zz2 hg (Kd.R_ne gP.out aA.out (by decide))) (by rw [hw]; exact below_set (HB.out) vZ.out : Below w.heap.size w w43); clear f2 gP aA HB; obtain ⟨f2, gP, aA, HB⟩ := n_; clear hg hw hp_) | ((with_reducible refine gate_builtin (b := .append) (xs := #[.tmp 64, .tmp 66]) rfl ?_); at_builtin; refine Kd.R_append (Kd.int .i64) (w0 := w) w.heap.size rfl (.tmp 64) (.tmp 66) 26 3 (.int .i64 0) 8 rfl Try.underlying26 info3 rfl (by decide) (by omega) u7 b8 cW [.int .i64 cW] (fun _ => True) (fun _ => False) rfl rfl ?aP (fun _ hk => hk.elim) ?aF ?aO ?aB ?aS ?aL ?_; (case aP => exact rfl); (case aB => exact zz0); (case aF => exact (fun _ _ => trivial)); (case aO => exact zz25); (case aS => exact (below_size zz0)); (case aL => have := tM.out; omega); intro v111 w44 ho hb hg hat; rw [← pN.out] at ho; have n_ := zA4 (Kd.R_over' (by (with_reducible repeat (first | apply Kd.R_alloc | apply Kd.R_drewN | apply Kd.R_drew)); exact gP.out) (Kd.R_typed zz25) (by decide) hg) (blk_grown (g := aE) (o := .cells #[.int .i64 aD, .slice aH aC.length aG] 25 (0, 0)) zz2 hg (Kd.R_ne f2.out aA.out (by decide))) hb ho; clear gP aA HB f2; obtain ⟨gP, aA, HB, pT⟩ := n_; clear ho hb hg hat))); (try simp only [← fY]); go_roundg k2; (case measure => have := HK1.out; have := HK2.out; omega); case rel => exact ⟨(oE), (bZ), H', ⟨zz50⟩, ⟨by (try simp only [fY]); (with_reducible repeat (first | apply Kd.R_alloc | apply Kd.R_drewN | apply Kd.R_drew)); exact pT.out⟩, ⟨zz29⟩, ⟨zz27⟩, ⟨zz0⟩⟩
     rw [if_pos c18] at H; have iD : decide (0 ≤ cE) = true := decide_eq_true c18; clear c18; have H' := zK_ H; clear H; go_wp2; (go_loopg [11, 12] k2 (fun kq v11 v12 w' => ∃ (i3 : Int) (fC : Int), v11 = .int .i64 i3 ∧ v12 = .int .i64 fC ∧ Aside0 (spec_l05Burn.l2 kq l1 b8 bK cW cE i3 fC aD aC = some r) ∧ Aside0 (kq ≤ k2) ∧ Aside0 (Kd.R (Kd.int .i64) 3 w' w.heap.size (fun _ => True) u7 b8) ∧ Aside0 (Kd.R Kd.bool 4 w' w.heap.size (fun _ => True) (.slice (some ⟨go8, 0, none⟩) bK.length co8) bK) ∧ Aside0 (w'.heap[aE]? = some (.cells #[.int .i64 aD, (.slice aH aC.length aG)] 25 (0, 0))) ∧ Aside0 (Below w.heap.size w w'))); case atStart => exact ⟨(0), (0), zz5, zz5, H', ⟨Nat.le_refl _⟩, ⟨zz33⟩, ⟨zz29⟩, ⟨zz27⟩, ⟨zz0⟩⟩
     case round =>
      clear H'; (try clear c1); (try clear p2); (try clear c4); (try clear cY); (try clear jS); (try clear c5); (try clear dF); (try clear kJ); (try clear c6); (try clear eN); (try clear p6); (try clear c7); (try clear dL); (try clear p8); (try clear q8); (try clear hx8); (try clear hf8); (try clear c9); (try clear c18); (try clear iD); (try clear fV); (try clear fU); (try clear iR); (try clear iQ); (try clear fT); (try clear fS); (try clear iN); (try clear iM); (try clear kT); (try clear p2); (try clear p6); (try clear p8); (try clear q8); obtain ⟨i3, fC, rfl, rfl, HA, HK3, f2, gP, aA, HB⟩ := hrel
      cases gk with
      | zero => exact absurd HA.out (by simp [spec_l05Burn.l2])
      | succ k3 =>
       have H := HA.out; clear HA; simp only [spec_l05Burn.l2] at H; by_cases c19 : fC < aD
       ·rw [if_pos c19] at H; have pF := decide_eq_true c19; clear c19; by_cases c20 : 0 ≤ fC; rotate_left
        ·rw [if_neg c20] at H; exact absurd H (by simp)
        rw [if_pos c20] at H; have kZ := decide_eq_true c20; clear c20; by_cases c21 : fC < (bK.length : Int); rotate_left
        ·rw [if_neg c21] at H; exact absurd H (by simp)
        rw [if_pos c21] at H; have iV := decide_eq_true c21; (try (have mH := iV; first | rw [fY] at mH | rw [← fY] at mH)); clear c21; obtain ⟨bq22, hbq22⟩ : ∃ b_ : Bool, b_ = (rdOf false bK fC) := ⟨_, rfl⟩; (replace H : (if bq22 = true then ((spec_Multiplicity.f k3 aD aC cE fC).bind fun oA => (spec_l05Burn.l2 k3 l1 b8 bK cW cE (wrap64 (i3 + oA)) (wrap64 (fC + 1)) aD aC)) else (spec_l05Burn.l2 k3 l1 b8 bK cW cE i3 (wrap64 (fC + 1)) aD aC)) = some r := by rw [← hbq22] at H; exact H); have Nbq22 := zK_ hbq22; clear hbq22; by_cases c23 : bq22 = true; rotate_left
        ·replace c23 := Bool.eq_false_iff.mpr c23; subst c23; rw [if_neg (show ¬ (false = true) by decide)] at H; have H' := zK_ H; clear H; have qM := zC20 aA; have qL := zC21 aA; have qG := blk_frozen aA.out 0; have qF := blk_frozen aA.out 1; have p113 : 0 ≤ (fC : Int) := of_decide_eq_true zz3; have q113 : fC < (bK.length : Int) := of_decide_eq_true zz3; obtain ⟨pJ, e113, gG⟩ := Kd.at_bool (Kd.R_reads' gP.out).2.2 fC p113 q113; (try rw [← Nbq22.out] at gG); obtain rfl : (⟨go8, 0, none⟩ : Addr) = pJ := (by injection e113); (first | simp only [add_plain] at gG | simp only [add_at] at gG | simp only [Addr.add, Nat.zero_add] at gG | skip); replace p113 := eq_true p113; replace q113 := eq_true q113; go_wp2; go_roundg k3; (case measure => have := HK1.out; have := HK2.out; have := HK3.out; omega); case rel => exact ⟨(i3), (wrap64 (fC + 1)), zz5, zz5, H', ⟨by have := HK1.out; have := HK2.out; have := HK3.out; omega⟩, ⟨zz33⟩, ⟨zz29⟩, ⟨zz27⟩, ⟨zz0⟩⟩
        subst c23; rw [if_pos rfl] at H; obtain ⟨oA, A240, H⟩ := zO_ H; (try dsimp only at H); have A24 := zK_ A240; clear A240; have H' := zK_ H; clear H; have lP := zC20 aA; have lO := zC21 aA; have lH := blk_frozen aA.out 0; have lG := blk_frozen aA.out 1; have p113 : 0 ≤ (fC : Int) := of_decide_eq_true zz3; have q113 : fC < (bK.length : Int) := of_decide_eq_true zz3; obtain ⟨pJ, e113, gG⟩ := Kd.at_bool (Kd.R_reads' gP.out).2.2 fC p113 q113; (try rw [← Nbq22.out] at gG); obtain rfl : (⟨go8, 0, none⟩ : Addr) = pJ := (by injection e113); (first | simp only [add_plain] at gG | simp only [add_at] at gG | simp only [Addr.add, Nat.zero_add] at gG | skip); replace p113 := eq_true p113; replace q113 := eq_true q113; (go_wp2_with (first | ((with_reducible refine gate_callee (f := 104) rfl ?_); refine goesL_ (some 42) rfl rfl Try.func104 (by kernel_rfl) rfl #[.agg #[.int .i64 aD, .slice aH aC.length aG], .int .i64 cE, .int .i64 fC] rfl zz4 ?_; (with_reducible refine (spec_Multiplicity.calls k3 aD _ _ aC cE fC oA _ ?side1 ?side2 A24.out).mono ?_); (case side1 => exact zz6); (case side2 => exact bG.out); rintro e w26 ⟨rfl, hb⟩; refine ⟨_, rfl, ?_⟩; have n_ := zA4 (Kd.R_below zz25 hb) (Kd.R_below (by (with_reducible repeat (first | apply Kd.R_alloc | apply Kd.R_drewN | apply Kd.R_drew)); exact gP.out) hb) (blk_below (g := aE) (o := .cells #[.int .i64 aD, .slice aH aC.length aG] 25 (0, 0)) zz2 hb) (below_step zz0 hb); clear f2 gP aA HB; obtain ⟨f2, gP, aA, HB⟩ := n_; clear hb))); go_roundg k3; (case measure => have := HK1.out; have := HK2.out; have := HK3.out; omega); case rel => exact ⟨(wrap64 (i3 + oA)), (wrap64 (fC + 1)), zz5, zz5, H', ⟨by have := HK1.out; have := HK2.out; have := HK3.out; omega⟩, ⟨zz33⟩, ⟨zz29⟩, ⟨zz27⟩, ⟨zz0⟩⟩
       rw [if_neg c19] at H; have pF := decide_eq_false c19; clear c19; by_cases c28 : 0 ≤ cE; rotate_left
       ·rw [if_neg c28] at H; exact absurd H (by simp)
       rw [if_pos c28] at H; have pD := decide_eq_true c28; clear c28; by_cases c29 : cE < (bK.length : Int); rotate_left
       ·rw [if_neg c29] at H; exact absurd H (by simp)
       rw [if_pos c29] at H; have pC := decide_eq_true c29; (try (have mF := pC; first | rw [fY] at mF | rw [← fY] at mF)); clear c29; obtain ⟨bq30, hbq30⟩ : ∃ b_ : Bool, b_ = (rdOf false bK cE) := ⟨_, rfl⟩; (replace H : (if bq30 = true then (spec_l05Burn.l1 k3 l1 b8 bK cW (wrap64 (cE - 1)) aD aC) else (if cE < (l1.length : Int) then (if (rd l1 cE) < i3 then (spec_l05Burn.l1 k3 l1 b8 bK cE (wrap64 (cE - 1)) aD aC) else (spec_l05Burn.l1 k3 l1 b8 bK cW (wrap64 (cE - 1)) aD aC)) else (none))) = some r := by rw [← hbq30] at H; exact H); have Nbq30 := zK_ hbq30; clear hbq30; by_cases c31 : bq30 = true
       ·subst c31; rw [if_pos rfl] at H; have H' := zK_ H; clear H; have vV := zC20 aA; have vU := zC21 aA; have uS := blk_frozen aA.out 0; have uR := blk_frozen aA.out 1; have p115 : 0 ≤ (cE : Int) := of_decide_eq_true zz3; have q115 : cE < (bK.length : Int) := of_decide_eq_true zz3; obtain ⟨mM, e115, eK⟩ := Kd.at_bool (Kd.R_reads' gP.out).2.2 cE p115 q115; (try rw [← Nbq30.out] at eK); obtain rfl : (⟨go8, 0, none⟩ : Addr) = mM := (by injection e115); (first | simp only [add_plain] at eK | simp only [add_at] at eK | simp only [Addr.add, Nat.zero_add] at eK | skip); replace p115 := eq_true p115; replace q115 := eq_true q115; go_wp2; go_roundg k3; (case measure => have := HK1.out; have := HK2.out; have := HK3.out; omega); case rel => exact ⟨(cW), (wrap64 (cE - 1)), zz5, zz5, H', ⟨by have := HK1.out; have := HK2.out; have := HK3.out; omega⟩, ⟨zz33⟩, ⟨zz29⟩, ⟨zz27⟩, ⟨zz0⟩⟩
       replace c31 := Bool.eq_false_iff.mpr c31; subst c31; rw [if_neg (show ¬ (false = true) by decide)] at H; by_cases c33 : cE < (l1.length : Int); rotate_left
       ·rw [if_neg c33] at H; exact absurd H (by simp)
       rw [if_pos c33] at H; have sX := decide_eq_true c33; (try (have mE := sX; first | rw [fY] at mE | rw [← fY] at mE)); clear c33; by_cases c34 : (rd l1 cE) < i3
       ·rw [if_pos c34] at H; have sW := decide_eq_true c34; clear c34; have H' := zK_ H; clear H; have jE := zC20 aA; have jD := zC21 aA; have i6 := blk_frozen aA.out 0; have i5 := blk_frozen aA.out 1; have p115 : 0 ≤ (cE : Int) := of_decide_eq_true zz3; have q115 : cE < (bK.length : Int) := of_decide_eq_true zz3; obtain ⟨mM, e115, eK⟩ := Kd.at_bool (Kd.R_reads' gP.out).2.2 cE p115 q115; (try rw [← Nbq30.out] at eK); obtain rfl : (⟨go8, 0, none⟩ : Addr) = mM := (by injection e115); (first | simp only [add_plain] at eK | simp only [add_at] at eK | simp only [Addr.add, Nat.zero_add] at eK | skip); replace p115 := eq_true p115; replace q115 := eq_true q115; have p116 : 0 ≤ (cE : Int) := of_decide_eq_true zz3; have q116 : cE < (l1.length : Int) := of_decide_eq_true zz3; obtain ⟨tG, e116, g3⟩ := Kd.at_int HR1.out cE p116 q116; cases e116; replace g3 := (HB.out.cell (World.block_lt_of_cell? w _ g3)).trans g3; replace p116 := eq_true p116; replace q116 := eq_true q116; go_wp2; go_roundg k3; (case measure => have := HK1.out; have := HK2.out; have := HK3.out; omega); case rel => exact ⟨(cE), (wrap64 (cE - 1)), zz5, zz5, H', ⟨by have := HK1.out; have := HK2.out; have := HK3.out; omega⟩, ⟨zz33⟩, ⟨zz29⟩, ⟨zz27⟩, ⟨zz0⟩⟩
       rw [if_neg c34] at H; have sW := decide_eq_false c34; clear c34; have H' := zK_ H; clear H; have vR := zC20 aA; have vQ := zC21 aA; have uO := blk_frozen aA.out 0; have uN := blk_frozen aA.out 1; have p115 : 0 ≤ (cE : Int) := of_decide_eq_true zz3; have q115 : cE < (bK.length : Int) := of_decide_eq_true zz3; obtain ⟨mM, e115, eK⟩ := Kd.at_bool (Kd.R_reads' gP.out).2.2 cE p115 q115; (try rw [← Nbq30.out] at eK); obtain rfl : (⟨go8, 0, none⟩ : Addr) = mM := (by injection e115); (first | simp only [add_plain] at eK | simp only [add_at] at eK | simp only [Addr.add, Nat.zero_add] at eK | skip); replace p115 := eq_true p115; replace q115 := eq_true q115; have p116 : 0 ≤ (cE : Int) := of_decide_eq_true zz3; have q116 : cE < (l1.length : Int) := of_decide_eq_true zz3; obtain ⟨tG, e116, g3⟩ := Kd.at_int HR1.out cE p116 q116; cases e116; replace g3 := (HB.out.cell (World.block_lt_of_cell? w _ g3)).trans g3; replace p116 := eq_true p116; replace q116 := eq_true q116; go_wp2; go_roundg k3; (case measure => have := HK1.out; have := HK2.out; have := HK3.out; omega); case rel => exact ⟨(cW), (wrap64 (cE - 1)), zz5, zz5, H', ⟨by have := HK1.out; have := HK2.out; have := HK3.out; omega⟩, ⟨zz33⟩, ⟨zz29⟩, ⟨zz27⟩, ⟨zz0⟩⟩
end Go.Proofs.Ytnbljcgdgblgoaa.P
end

section
namespace Go.Proofs.Ytnbljcgdgblgoaa.P
open Go.RowKit Go.Proofs.YtnbljcgdgblgoaaW.PrintWords Go.Proofs.YtnbljcgdgblgoaaW.PrintLast Go.Proofs.YtnbljcgdgblgoaaW.PrintMore
attribute [local go_sem] max2_int min2_int max_two min_two max_three min_three max_four min_four
set_option linter.unusedVariables false
set_option linter.unusedSimpArgs false
def spec_DegreeOf.l0 : Nat → Int → List Int → Int → Int → Option (Int)
 | 0, _, _, _, _ => none
 | k + 1, x3, x6, x7, x8 => if x8 < x7 then (if 0 ≤ x8 then (if x8 < (x6.length : Int) then (spec_DegreeOf.l0 k (wrap64 (x3 + (rd x6 x8))) x6 x7 (wrap64 (x8 + 1))) else (none)) else (none)) else (some x3)
def spec_DegreeOf.f (k : Nat) (l0 : List Int) : Option (Int) := spec_DegreeOf.l0 k 0 l0 (l0.length : Int) 0
theorem spec_DegreeOf.mono_l : ∀ k, (∀ y0 y1 y2 y3, LeO (spec_DegreeOf.l0 k y0 y1 y2 y3) (spec_DegreeOf.l0 (k + 1) y0 y1 y2 y3))
 | 0 => fun _ _ _ _ r h => by simp [spec_DegreeOf.l0] at h
 | k + 1 => by
  have ih0 := spec_DegreeOf.mono_l k
  ·intro y0 y1 y2 y3
   unfold spec_DegreeOf.l0
   exact zm0
theorem spec_DegreeOf.mono : ∀ a0 k, LeO (spec_DegreeOf.f k a0) (spec_DegreeOf.f (k + 1) a0) := by
 intro a0 k; have ih0 := spec_DegreeOf.mono_l k; unfold spec_DegreeOf.f; exact zm0
theorem spec_DegreeOf.calls (k : Nat) (A0 : Option Addr) (c0 : Nat) (l0 : List Int) (r : Int) (w : World) (hr0 : Kd.C (Kd.int .i64) w A0 l0.length l0) (hc0 : l0.length ≤ c0) (h : spec_DegreeOf.f k l0 = some r) :
  Calls Try.prog 72 #[.slice A0 l0.length c0] w fun e w' => e = .returned (.int .i64 r) ∧ Drawn0 w w' := by
 have HR0 := zK_ hr0; have HC0 := zK_ hc0; clear hr0 hc0; have H : (spec_DegreeOf.l0 k 0 l0 (l0.length : Int) 0) = some r := h; clear h; have H' := zK_ H; clear H; go_enter Try.func72, Try.ntmps72; go_wp2; (go_loopg [3, 8] k (fun kq v3 v8 w' => ∃ (bT : Int) (bK : Int), v3 = .int .i64 bT ∧ v8 = .int .i64 bK ∧ Aside0 (spec_DegreeOf.l0 kq bT l0 (l0.length : Int) bK = some r) ∧ Aside0 (kq ≤ k) ∧ Drawn0 w w')); case atStart => exact ⟨(0), (0), zz5, zz5, H', ⟨Nat.le_refl _⟩, by repeat (first | exact Drawn0.refl _ | apply Drawn0.step)⟩
 case round =>
  clear H'; obtain ⟨bT, bK, rfl, rfl, HA, HK1, ⟨m1, rfl⟩⟩ := hrel
  cases gk with
  | zero => exact absurd HA.out (by simp [spec_DegreeOf.l0])
  | succ k1 =>
   have H := HA.out; clear HA; simp only [spec_DegreeOf.l0] at H; by_cases c2 : bK < (l0.length : Int); rotate_left
   ·rw [if_neg c2] at H; have jT := decide_eq_false c2; clear c2; obtain rfl := Option.some.inj H; go_wp2; go_ret; exact ⟨zz5, by repeat (first | exact Drawn0.refl _ | apply Drawn0.step)⟩
   rw [if_pos c2] at H; have jT := decide_eq_true c2; clear c2; by_cases c3 : 0 ≤ bK; rotate_left
   ·rw [if_neg c3] at H; exact absurd H (by simp)
   rw [if_pos c3] at H; have dB := decide_eq_true c3; clear c3; by_cases c4 : bK < (l0.length : Int); rotate_left
   ·rw [if_neg c4] at H; exact absurd H (by simp)
   rw [if_pos c4] at H; have cY := decide_eq_true c4; clear c4; have H' := zK_ H; clear H; have p101 : 0 ≤ (bK : Int) := of_decide_eq_true zz3; have q101 : bK < (l0.length : Int) := of_decide_eq_true zz3; obtain ⟨cF, e101, a8⟩ := Kd.at_int HR0.out bK p101 q101; cases e101; replace p101 := eq_true p101; replace q101 := eq_true q101; go_wp2; go_roundg k1; (case measure => have := HK1.out; omega); case rel => exact ⟨(wrap64 (bT + (rd l0 bK))), (wrap64 (bK + 1)), zz5, zz5, H', ⟨zz34⟩, by repeat (first | exact Drawn0.refl _ | apply Drawn0.step)⟩
end Go.Proofs.Ytnbljcgdgblgoaa.P
end

section
namespace Go.Proofs.Ytnbljcgdgblgoaa.Cf
set_option linter.unusedVariables false
set_option linter.unusedSimpArgs false
open Go.RowKit Go.Proofs.YtnbljcgdgblgoaaW.PrintWords
def extB (m : Nat) (d : List Int) : List (List Int) := (List.range m).map fun t : Nat => d ++ [(t : Int)]
theorem extB_zero (d : List Int) : extB 0 d = [] := rfl
theorem extB_succ (m : Nat) (d : List Int) : extB (m + 1) d = extB m d ++ [d ++ [(m : Int)]] := by
 unfold extB
 rw [List.range_succ, List.map_append]
 rfl
theorem extB_len (m : Nat) (d : List Int) : (extB m d).length = m := by unfold extB; simp
def boxL (c : Nat → Nat) : Nat → List (List Int)
 | 0 => [[]]
 | v + 1 => (boxL c v).flatMap (extB (c v))
def outB (m : Nat) (L : List (List Int)) (i : Nat) : List (List Int) := (L.take i).flatMap (extB m)
theorem outB_succ (m : Nat) {L : List (List Int)} {i : Nat} {x : List Int} (h : L[i]? = some x) : outB m L (i + 1) = outB m L i ++ extB m x := by
 unfold outB
 rw [List.take_add_one, h, List.flatMap_append]
 simp
theorem outB_all (c : Nat → Nat) (v : Nat) : outB (c v) (boxL c v) (boxL c v).length = boxL c (v + 1) := by
 unfold outB
 rw [List.take_length]
 rfl
theorem flatB_len (m : Nat) : ∀ L : List (List Int), (L.flatMap (extB m)).length = L.length * m
 | [] => by simp
 | x :: L => by
  rw [List.flatMap_cons, List.length_append, extB_len, flatB_len m L, List.length_cons, Nat.add_mul, Nat.one_mul, Nat.add_comm]
theorem outB_len (m : Nat) (L : List (List Int)) (i : Nat) : (outB m L i).length ≤ L.length * m := by
 unfold outB
 rw [flatB_len, List.length_take]
 exact Nat.mul_le_mul_right _ (Nat.min_le_right _ _)
theorem boxL_len {c : Nat → Nat} {b : Nat} : ∀ {v : Nat}, (∀ u, u < v → c u ≤ b) → (boxL c v).length ≤ b ^ v
 | 0, _ => Nat.le_refl _
 | v + 1, h => by
  show ((boxL c v).flatMap (extB (c v))).length ≤ _
  rw [flatB_len, Nat.pow_succ]
  exact Nat.mul_le_mul (boxL_len fun u hu => h u (by omega)) (h v (by omega))
theorem boxL_row {c : Nat → Nat} : ∀ {v : Nat} {x : List Int}, x ∈ boxL c v → x.length = v ∧ ∀ (j : Nat) (h : j < x.length), 0 ≤ x[j] ∧ x[j] < (c j : Int)
 | 0, x, h => by
  rw [boxL, List.mem_singleton] at h
  subst h
  exact ⟨rfl, fun j h => absurd h (by simp)⟩
 | v + 1, x, h => by
  rw [boxL, List.mem_flatMap] at h
  obtain ⟨d, hd, hx⟩ := h
  obtain ⟨h1, h2⟩ := boxL_row hd
  unfold extB at hx
  obtain ⟨t, ht, rfl⟩ := List.mem_map.1 hx
  rw [List.mem_range] at ht
  refine ⟨by simp [h1], fun j hj => ?_⟩
  by_cases e : j < d.length
  ·rw [List.getElem_append_left e]
   exact h2 j e
  ·rw [List.length_append, List.length_singleton] at hj
   obtain rfl : j = d.length := by omega
   rw [List.getElem_append_right (Nat.le_refl _)]
   simp only [Nat.sub_self, List.getElem_singleton]
   rw [h1]
   omega
def dfsB (c : Nat → Nat) : Nat → Nat → List Int → List (List Int)
 | 0, _, s => [s]
 | r + 1, v, s => (extB (c v) s).flatMap (dfsB c r (v + 1))
theorem flatB_one {α : Type} : ∀ L : List α, (L.flatMap fun t => [t]) = L
 | [] => rfl
 | a :: L => by rw [List.flatMap_cons, flatB_one L]; rfl
theorem dfs_ext (c : Nat → Nat) : ∀ (r v : Nat) (s : List Int), (dfsB c r v s).flatMap (extB (c (v + r))) = dfsB c (r + 1) v s
 | 0, v, s => by
  show ([s] : List (List Int)).flatMap (extB (c v)) = (extB (c v) s).flatMap (fun t => [t])
  rw [flatB_one, List.flatMap_cons, List.flatMap_nil, List.append_nil]
 | r + 1, v, s => by
  show ((extB (c v) s).flatMap (dfsB c r (v + 1))).flatMap (extB (c (v + (r + 1)))) = (extB (c v) s).flatMap (dfsB c (r + 1) (v + 1))
  rw [List.flatMap_assoc]
  congr 1
  funext t
  rw [show v + (r + 1) = v + 1 + r by omega]
  exact dfs_ext c r (v + 1) t
theorem dfs_box (c : Nat → Nat) : ∀ n, dfsB c n 0 [] = boxL c n
 | 0 => rfl
 | n + 1 => by
  rw [boxL, ← dfs_box c n, ← dfs_ext c n 0 [], Nat.zero_add]
def dfsJ (c : Nat → Nat) (r v : Nat) (s : List Int) (j : Nat) : List (List Int) := (extB j s).flatMap (dfsB c r (v + 1))
theorem dfsJ_zero (c : Nat → Nat) (r v : Nat) (s : List Int) : dfsJ c r v s 0 = [] := rfl
theorem dfsJ_succ (c : Nat → Nat) (r v : Nat) (s : List Int) (j : Nat) : dfsJ c r v s (j + 1) = dfsJ c r v s j ++ dfsB c r (v + 1) (s ++ [(j : Int)]) := by
 unfold dfsJ
 rw [extB_succ, List.flatMap_append, List.flatMap_cons, List.flatMap_nil, List.append_nil]
theorem dfsJ_all (c : Nat → Nat) (r v : Nat) (s : List Int) : dfsJ c r v s (c v) = dfsB c (r + 1) v s := rfl
theorem dfsJ_mono (c : Nat → Nat) (r v : Nat) (s : List Int) (j : Nat) : ∀ d, (dfsJ c r v s j).length ≤ (dfsJ c r v s (j + d)).length
 | 0 => Nat.le_refl _
 | d + 1 => by
  refine Nat.le_trans (dfsJ_mono c r v s j d) ?_
  rw [← Nat.add_assoc, dfsJ_succ, List.length_append]
  exact Nat.le_add_right _ _
theorem dfsJ_len (c : Nat → Nat) (r v : Nat) (s : List Int) {j : Nat} (hj : j < c v) : (dfsJ c r v s j).length + (dfsB c r (v + 1) (s ++ [(j : Int)])).length ≤ (dfsB c (r + 1) v s).length := by
 have h := dfsJ_mono c r v s (j + 1) (c v - (j + 1))
 rw [show j + 1 + (c v - (j + 1)) = c v by omega, dfsJ_all, dfsJ_succ, List.length_append] at h
 exact h
theorem extB_mem {m : Nat} {d : List Int} {j : Nat} (h : j < m) : d ++ [(j : Int)] ∈ extB m d := by
 unfold extB
 exact List.mem_map.2 ⟨j, List.mem_range.2 h, rfl⟩
theorem dfs_sub (c : Nat → Nat) (r v : Nat) (s : List Int) {j : Nat} (hj : j < c v) {t : List Int} (ht : t ∈ dfsB c r (v + 1) (s ++ [(j : Int)])) : t ∈ dfsB c (r + 1) v s := by
 show t ∈ (extB (c v) s).flatMap (dfsB c r (v + 1))
 exact List.mem_flatMap.2 ⟨_, extB_mem hj, ht⟩
end Go.Proofs.Ytnbljcgdgblgoaa.Cf
end

