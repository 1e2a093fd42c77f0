/- A part of the proof of FnExactGroupFactors. -/
import Derived.Test.YtkcbinohpdhbgaaBFnExactGroupFactors0
import Derived.Deep.LoopGhost
import Derived.Test.YtkcbinohpdhbgaaBFnExactGroupFactorsWWords
import Derived.Test.YtkcbinohpdhbgaaBFnExactGroupFactorsWMore
import Derived.Laws.BitsLemmas
import Derived.StillTailTactics
section
namespace Go.Proofs.Ytkcbinohpdhbgaa.P
open Go.RowKit Go.Proofs.YtkcbinohpdhbgaaW.PrintWords Go.Proofs.YtkcbinohpdhbgaaW.PrintLast Go.Proofs.YtkcbinohpdhbgaaW.PrintMore
attribute [local go_sem] max2_int min2_int max_two min_two max_three min_three max_four min_four
set_option linter.unusedVariables false
set_option linter.unusedSimpArgs false
mutual
def spec_Multiplicity.j0 : Nat → Int → Int → Int → Bool → Int → List (S76) → Option (Int)
 | 0, _, _, _, _, _, _ => none
 | k + 1, x1, x2, x7, x24, x102000, x102001 => if x24 = true then (some 0) else (spec_Multiplicity.l0 k x1 x2 x7 x102001 (x102001.length : Int) 0)
def spec_Multiplicity.l0 : Nat → Int → Int → Int → List (S76) → Int → Int → Option (Int)
 | 0, _, _, _, _, _, _ => none
 | k + 1, x1, x2, x7, x26, x27, x28 => if x28 < x27 then (if 0 ≤ x28 then (if x28 < (x26.length : Int) then (if ((rd_T76 x26 x28).f0) = (mn x1 x2) then (if ((rd_T76 x26 x28).f1) = (mx x1 x2) then (spec_Multiplicity.l0 k x1 x2 (wrap64 (x7 + 1)) x26 x27 (wrap64 (x28 + 1))) else (spec_Multiplicity.l0 k x1 x2 x7 x26 x27 (wrap64 (x28 + 1)))) else (spec_Multiplicity.l0 k x1 x2 x7 x26 x27 (wrap64 (x28 + 1)))) else (none)) else (none)) else (some x7)
end
def spec_Multiplicity.f (k : Nat) (a0_0 : Int) (l0_1 : List (S76)) (a1 : Int) (a2 : Int) : Option (Int) := (spec_l02Vert.f a0_0 l0_1 a1).bind fun t102 => (if t102 = true then ((spec_l02Vert.f a0_0 l0_1 a2).bind fun t103 => (if t103 = true then (spec_Multiplicity.j0 k a1 a2 0 (a1 == a2) a0_0 l0_1) else (spec_Multiplicity.j0 k a1 a2 0 true a0_0 l0_1))) else (spec_Multiplicity.j0 k a1 a2 0 true a0_0 l0_1))
theorem spec_Multiplicity.mono_l : ∀ k, (∀ y0 y1 y2 y3 y4 y5, LeO (spec_Multiplicity.j0 k y0 y1 y2 y3 y4 y5) (spec_Multiplicity.j0 (k + 1) y0 y1 y2 y3 y4 y5)) ∧ (∀ y0 y1 y2 y3 y4 y5, LeO (spec_Multiplicity.l0 k y0 y1 y2 y3 y4 y5) (spec_Multiplicity.l0 (k + 1) y0 y1 y2 y3 y4 y5))
 | 0 => ⟨fun _ _ _ _ _ _ r h => by simp [spec_Multiplicity.j0] at h, fun _ _ _ _ _ _ r h => by simp [spec_Multiplicity.l0] at h⟩
 | k + 1 => by
  obtain ⟨ih0, ih1⟩ := spec_Multiplicity.mono_l k
  refine ⟨?_, ?_⟩
  ·intro y0 y1 y2 y3 y4 y5
   unfold spec_Multiplicity.j0
   exact zm1
  ·intro y0 y1 y2 y3 y4 y5
   unfold spec_Multiplicity.l0
   exact zm1
theorem spec_Multiplicity.mono : ∀ a0 a1 a2 a3 k, LeO (spec_Multiplicity.f k a0 a1 a2 a3) (spec_Multiplicity.f (k + 1) a0 a1 a2 a3) := by
 intro a0 a1 a2 a3 k; obtain ⟨ih0, ih1⟩ := spec_Multiplicity.mono_l k; unfold spec_Multiplicity.f; exact zm1
set_option maxHeartbeats 8000000 in
set_option maxRecDepth 100000 in
theorem spec_Multiplicity.calls (k : Nat) (a0_0 : Int) (A0_1 : Option Addr) (c0_1 : Nat) (l0_1 : List (S76)) (a1 : Int) (a2 : Int) (r : Int) (w : World) (hr0_1 : Kd.C k76 w A0_1 l0_1.length l0_1) (hc0_1 : l0_1.length ≤ c0_1) (h : spec_Multiplicity.f k a0_0 l0_1 a1 a2 = some r) :
  Calls Try.prog 97 #[.agg #[.int .i64 a0_0, .slice A0_1 l0_1.length c0_1], .int .i64 a1, .int .i64 a2] w fun e w' => e = .returned (.int .i64 r) ∧ Below w.heap.size w w' := by
 have hu30 := Try.underlying30; have hu76 := Try.underlying76; have HR0_1 := Aside0.mk hr0_1; have HC0_1 := Aside0.mk hc0_1; clear hr0_1 hc0_1; have HB := Aside0.mk (Below.refl w.heap.size w); have H : ((spec_l02Vert.f a0_0 l0_1 a1).bind fun t102 => (if t102 = true then ((spec_l02Vert.f a0_0 l0_1 a2).bind fun t103 => (if t103 = true then (spec_Multiplicity.j0 k a1 a2 0 (a1 == a2) a0_0 l0_1) else (spec_Multiplicity.j0 k a1 a2 0 true a0_0 l0_1))) else (spec_Multiplicity.j0 k a1 a2 0 true a0_0 l0_1))) = some r := h; clear h; have HC4 := Aside0.mk H; clear H; go_enter Try.func97, Try.ntmps97; (go_upto_region 2 with (first | ((with_reducible refine gate_dst (N := 3) rfl ?_); (try (refine gate_guard (by rfl) ?_; dsimp only)); refine box_event ?hg (N := 3) ?hd (cs := #[.int .i64 a0_0, .slice A0_1 l0_1.length c0_1]) (t := 30) ?hr ?_; (case hd => rfl); (case hg => rfl); (case hr => exact zz13); intro gb101 hg w5 hbox hb; have n_ := zA4 (below_step zz1 hb) hbox (zz12 : w.heap.size ≤ gb101) (zz12 : w.heap.size ≤ gb101); clear HB; obtain ⟨HB, BK101, GW101, GE101⟩ := n_; clear hb hbox hg))); (try simp only [Act.put, List.setIfInBounds_toArray, List.set_cons_zero, List.set_cons_succ]); go_cut [24] (fun v24 wc => ∃ (kq : Nat) (x24_3 : Bool), v24 = .bool x24_3 ∧ Aside0 (spec_Multiplicity.j0 kq a1 a2 0 x24_3 a0_0 l0_1 = some r) ∧ Aside0 (kq ≤ k) ∧ Aside0 (wc.heap[gb101]? = some (.cells #[.int .i64 a0_0, (.slice A0_1 l0_1.length c0_1)] 30 (0, 0))) ∧ Aside0 (Below w.heap.size w wc))
 case first =>
  have H := HC4.out; clear HC4; replace H := Option.bind_eq_some_iff.mp H; obtain ⟨t102, A60, H⟩ := H; (try dsimp only at H); have A6 := Aside0.mk A60; clear A60; by_cases c7 : t102 = true; rotate_left
  ·replace c7 := Bool.eq_false_iff.mpr c7; subst c7; rw [if_neg (show ¬ (false = true) by decide)] at H; have H' := Aside0.mk H; clear H; have hcz18_0 := zC20 BK101; have hcz18_1 := zC21 BK101; have hfz18_0 := blk_frozen BK101.out 0; have hfz18_1 := blk_frozen BK101.out 1; (go_wp2_with (first | ((with_reducible refine gate_callee (f := 105) rfl ?_); refine goesL_ (some 12) rfl rfl Try.func105 (by kernel_rfl) rfl #[.agg #[.int .i64 a0_0, .slice A0_1 l0_1.length c0_1], .int .i64 a1] rfl zz3 ?_; (with_reducible refine (spec_l02Vert.calls a0_0 _ _ l0_1 a1 false _ ?side1 ?side2 A6.out).mono ?_); (case side1 => exact zz7); (case side2 => exact HC0_1.out); rintro e w19 ⟨rfl, hb⟩; refine ⟨_, rfl, ?_⟩; have n_ := zA2 (blk_below (g := gb101) (o := .cells #[.int .i64 a0_0, .slice A0_1 l0_1.length c0_1] 30 (0, 0)) zz2 hb) (below_step zz0 hb); clear BK101 HB; obtain ⟨BK101, HB⟩ := n_; clear hb))); (go_meet); case rel => exact ⟨_, (true), zz5, H', ⟨by first | omega | exact Nat.le_refl _⟩, ⟨zz2⟩, ⟨zz0⟩⟩
  subst c7; rw [if_pos rfl] at H; replace H := Option.bind_eq_some_iff.mp H; obtain ⟨t103, A80, H⟩ := H; (try dsimp only at H); have A8 := Aside0.mk A80; clear A80; by_cases c9 : t103 = true
  ·subst c9; rw [if_pos rfl] at H; have H' := Aside0.mk H; clear H; have hcz10_0 := zC20 BK101; have hcz10_1 := zC21 BK101; have hfz10_0 := blk_frozen BK101.out 0; have hfz10_1 := blk_frozen BK101.out 1; (go_wp2_with (first | ((with_reducible refine gate_callee (f := 105) rfl ?_); refine goesL_ (some 12) rfl rfl Try.func105 (by kernel_rfl) rfl #[.agg #[.int .i64 a0_0, .slice A0_1 l0_1.length c0_1], .int .i64 a1] rfl zz3 ?_; (with_reducible refine (spec_l02Vert.calls a0_0 _ _ l0_1 a1 true _ ?side1 ?side2 A6.out).mono ?_); (case side1 => exact zz7); (case side2 => exact HC0_1.out); rintro e w11 ⟨rfl, hb⟩; refine ⟨_, rfl, ?_⟩; have n_ := zA2 (blk_below (g := gb101) (o := .cells #[.int .i64 a0_0, .slice A0_1 l0_1.length c0_1] 30 (0, 0)) zz2 hb) (below_step zz0 hb); clear BK101 HB; obtain ⟨BK101, HB⟩ := n_; clear hb; have hcz12_0 := zC20 BK101; have hcz12_1 := zC21 BK101; have hfz12_0 := blk_frozen BK101.out 0; have hfz12_1 := blk_frozen BK101.out 1) | (go_at_call 105; (with_reducible refine (spec_l02Vert.calls a0_0 _ _ l0_1 a2 true _ ?side1 ?side2 A8.out).mono ?_); (case side1 => exact zz7); (case side2 => exact HC0_1.out); rintro e w13 ⟨rfl, hb⟩; have n_ := zA2 (blk_below (g := gb101) (o := .cells #[.int .i64 a0_0, .slice A0_1 l0_1.length c0_1] 30 (0, 0)) zz2 hb) (below_step zz0 hb); clear BK101 HB; obtain ⟨BK101, HB⟩ := n_; (try clear hb); (try clear hb2); (try clear hk); (try clear hi)))); (go_meet); case rel => exact ⟨_, ((a1 == a2)), zz5, H', ⟨by first | omega | exact Nat.le_refl _⟩, ⟨zz2⟩, ⟨zz0⟩⟩
  replace c9 := Bool.eq_false_iff.mpr c9; subst c9; rw [if_neg (show ¬ (false = true) by decide)] at H; have H' := Aside0.mk H; clear H; have hcz14_0 := zC20 BK101; have hcz14_1 := zC21 BK101; have hfz14_0 := blk_frozen BK101.out 0; have hfz14_1 := blk_frozen BK101.out 1; (go_wp2_with (first | ((with_reducible refine gate_callee (f := 105) rfl ?_); refine goesL_ (some 12) rfl rfl Try.func105 (by kernel_rfl) rfl #[.agg #[.int .i64 a0_0, .slice A0_1 l0_1.length c0_1], .int .i64 a1] rfl zz3 ?_; (with_reducible refine (spec_l02Vert.calls a0_0 _ _ l0_1 a1 true _ ?side1 ?side2 A6.out).mono ?_); (case side1 => exact zz7); (case side2 => exact HC0_1.out); rintro e w15 ⟨rfl, hb⟩; refine ⟨_, rfl, ?_⟩; have n_ := zA2 (blk_below (g := gb101) (o := .cells #[.int .i64 a0_0, .slice A0_1 l0_1.length c0_1] 30 (0, 0)) zz2 hb) (below_step zz0 hb); clear BK101 HB; obtain ⟨BK101, HB⟩ := n_; clear hb; have hcz16_0 := zC20 BK101; have hcz16_1 := zC21 BK101; have hfz16_0 := blk_frozen BK101.out 0; have hfz16_1 := blk_frozen BK101.out 1) | (go_at_call 105; (with_reducible refine (spec_l02Vert.calls a0_0 _ _ l0_1 a2 false _ ?side1 ?side2 A8.out).mono ?_); (case side1 => exact zz7); (case side2 => exact HC0_1.out); rintro e w17 ⟨rfl, hb⟩; have n_ := zA2 (blk_below (g := gb101) (o := .cells #[.int .i64 a0_0, .slice A0_1 l0_1.length c0_1] 30 (0, 0)) zz2 hb) (below_step zz0 hb); clear BK101 HB; obtain ⟨BK101, HB⟩ := n_; (try clear hb); (try clear hb2); (try clear hk); (try clear hi)))); (go_meet); case rel => exact ⟨_, (true), zz5, H', ⟨by first | omega | exact Nat.le_refl _⟩, ⟨zz2⟩, ⟨zz0⟩⟩
 case rest =>
  clear HC4; (try clear c1); (try clear p2); (try clear c7); (try clear c9); (try clear c10); (try clear hcz10_0); (try clear hcz10_1); (try clear hcz12_0); (try clear hcz12_1); (try clear hcz14_0); (try clear hcz14_1); (try clear hcz16_0); (try clear hcz16_1); (try clear hcz18_0); (try clear hcz18_1); (try clear hfz10_0); (try clear hfz10_1); (try clear hfz12_0); (try clear hfz12_1); (try clear hfz14_0); (try clear hfz14_1); (try clear hfz16_0); (try clear hfz16_1); (try clear hfz18_0); (try clear hfz18_1); obtain ⟨kq, x24_3, rfl, HA, HJ3, BK101, HB⟩ := hcut
  cases kq with
  | zero => exact absurd HA.out (by simp [spec_Multiplicity.j0])
  | succ kj3 =>
   have H := HA.out; clear HA; simp only [spec_Multiplicity.j0] at H; by_cases c20 : x24_3 = true
   ·subst c20; rw [if_pos rfl] at H; obtain rfl := Option.some.inj H; go_wp2; go_ret; exact ⟨zz8, zz0⟩
   replace c20 := Bool.eq_false_iff.mpr c20; subst c20; rw [if_neg (show ¬ (false = true) by decide)] at H; have H' := Aside0.mk H; clear H; have hcz21_0 := zC20 BK101; have hcz21_1 := zC21 BK101; have hfz21_0 := blk_frozen BK101.out 0; have hfz21_1 := blk_frozen BK101.out 1; go_wp2; (go_loopg [7, 28] kj3 (fun kq v7 v28 w' => ∃ (x7_2 : Int) (x28_2 : Int), v7 = .int .i64 x7_2 ∧ v28 = .int .i64 x28_2 ∧ Aside0 (spec_Multiplicity.l0 kq a1 a2 x7_2 l0_1 (l0_1.length : Int) x28_2 = some r) ∧ Aside0 (kq ≤ kj3) ∧ Aside0 (w'.heap[gb101]? = some (.cells #[.int .i64 a0_0, (.slice A0_1 l0_1.length c0_1)] 30 (0, 0))) ∧ Aside0 (Below w.heap.size w w'))); case atStart => exact ⟨(0), (0), zz5, zz5, H', ⟨Nat.le_refl _⟩, ⟨zz2⟩, ⟨zz0⟩⟩
   case round =>
    clear H'; (try clear c1); (try clear c2); (try clear p2); (try clear c7); (try clear c9); (try clear c10); (try clear c20); (try clear hcz10_0); (try clear hcz10_1); (try clear hcz12_0); (try clear hcz12_1); (try clear hcz14_0); (try clear hcz14_1); (try clear hcz16_0); (try clear hcz16_1); (try clear hcz18_0); (try clear hcz18_1); (try clear hcz21_0); (try clear hcz21_1); (try clear hfz10_0); (try clear hfz10_1); (try clear hfz12_0); (try clear hfz12_1); (try clear hfz14_0); (try clear hfz14_1); (try clear hfz16_0); (try clear hfz16_1); (try clear hfz18_0); (try clear hfz18_1); (try clear hfz21_0); (try clear hfz21_1); (try clear p2); obtain ⟨x7_2, x28_2, rfl, rfl, HA, HK2, BK101, HB⟩ := hrel
    cases gk with
    | zero => exact absurd HA.out (by simp [spec_Multiplicity.l0])
    | succ k2 =>
     have H := HA.out; clear HA; simp only [spec_Multiplicity.l0] at H; by_cases c22 : x28_2 < (l0_1.length : Int); rotate_left
     ·rw [if_neg c22] at H; have c22b0 := decide_eq_false c22; clear c22; obtain rfl := Option.some.inj H; go_wp2; go_ret; exact ⟨zz8, zz0⟩
     rw [if_pos c22] at H; have c22b0 := decide_eq_true c22; clear c22; by_cases c23 : 0 ≤ x28_2; rotate_left
     ·rw [if_neg c23] at H; exact absurd H (by simp)
     rw [if_pos c23] at H; have c23b0 := decide_eq_true c23; clear c23; by_cases c24 : x28_2 < (l0_1.length : Int); rotate_left
     ·rw [if_neg c24] at H; exact absurd H (by simp)
     rw [if_pos c24] at H; have c24b0 := decide_eq_true c24; clear c24; obtain ⟨ji25, hji25⟩ : ∃ j_ : Int, (mn a1 a2) = j_ := ⟨_, rfl⟩; (replace H : (if ((rd_T76 l0_1 x28_2).f0) = (ji25) then (if ((rd_T76 l0_1 x28_2).f1) = (mx a1 a2) then (spec_Multiplicity.l0 k2 a1 a2 (wrap64 (x7_2 + 1)) l0_1 (l0_1.length : Int) (wrap64 (x28_2 + 1))) else (spec_Multiplicity.l0 k2 a1 a2 x7_2 l0_1 (l0_1.length : Int) (wrap64 (x28_2 + 1)))) else (spec_Multiplicity.l0 k2 a1 a2 x7_2 l0_1 (l0_1.length : Int) (wrap64 (x28_2 + 1)))) = some r := by first | (rw [hji25] at H; exact H) | (simp only [hji25] at H ⊢; exact H)); have hji25_ : (if a2 < a1 then a2 else a1) = ji25 := hji25; by_cases c26 : ((rd_T76 l0_1 x28_2).f0) = (ji25); rotate_left
     ·rw [if_neg c26] at H; have c26b0 : (((rd_T76 l0_1 x28_2).f0) == (ji25)) = false := beq_eq_false_iff_ne.mpr c26; have c26b1 : (((rd_T76 l0_1 x28_2).f0) != (ji25)) = true := bne_iff_ne.mpr c26; have H' := Aside0.mk H; clear H; have p104 : 0 ≤ (x28_2 : Int) := of_decide_eq_true zz4; have q104 : x28_2 < (l0_1.length : Int) := of_decide_eq_true zz4; obtain ⟨ad104, e104, hx104_0, hx104_1⟩ := at_T76 HR0_1.out x28_2 p104 q104; cases e104; replace hx104_0 := (HB.out.cell (World.block_lt_of_cell? w _ hx104_0)).trans hx104_0; replace hx104_1 := (HB.out.cell (World.block_lt_of_cell? w _ hx104_1)).trans hx104_1; replace p104 := eq_true p104; replace q104 := eq_true q104; (go_wp2_with (first | ((with_reducible refine gate_dst (N := 9) rfl ?_); (try (refine gate_guard (by rfl) ?_; dsimp only)); refine box_event ?hg (N := 9) ?hd (cs := #[.int .i64 0, .int .i64 0]) (t := 76) ?hr ?_; (case hd => rfl); (case hg => rfl); (case hr => exact zz13); intro gb105 hg w35 hbox hb; have n_ := zA7 (blk_below (g := gb101) (o := .cells #[.int .i64 a0_0, .slice (some ad104) l0_1.length c0_1] 30 (0, 0)) zz2 hb) (below_step zz0 hb) hbox (zz14 : w.heap.size ≤ gb105) (zz14 : w.heap.size ≤ gb105) (by rw [hg]; exact Nat.ne_of_lt (blk_lt (g := gb101) (o := .cells #[.int .i64 a0_0, .slice (some ad104) l0_1.length c0_1] 30 (0, 0)) zz2) : gb101 ≠ gb105) (by rw [hg]; exact Nat.ne_of_gt (blk_lt (g := gb101) (o := .cells #[.int .i64 a0_0, .slice (some ad104) l0_1.length c0_1] 30 (0, 0)) zz2) : gb105 ≠ gb101); clear BK101 HB; obtain ⟨BK101, HB, BK105, GW105, GE105, NB101_105, NB105_101⟩ := n_; clear hb hbox hg; have hnb36 := NB105_101.out; have hnc36 := NB101_105.out; have hcz37_0 := zC20 BK105; have hcz37_1 := zC21 BK105; have hfz37_0 := blk_frozen BK105.out 0; have hfz37_1 := blk_frozen BK105.out 1))); go_roundg k2; (case measure => have := HJ3.out; have := HK2.out; omega); case rel => exact ⟨(x7_2), (wrap64 (x28_2 + 1)), zz5, zz5, H', ⟨by have := HJ3.out; have := HK2.out; omega⟩, ⟨zz29⟩, ⟨zz47⟩⟩
     rw [if_pos c26] at H; have c26b0 : (((rd_T76 l0_1 x28_2).f0) == (ji25)) = true := beq_iff_eq.mpr c26; have c26b1 : (((rd_T76 l0_1 x28_2).f0) != (ji25)) = false := bne_eq_false_iff_eq.mpr c26; clear c26; obtain ⟨ji27, hji27⟩ : ∃ j_ : Int, (mx a1 a2) = j_ := ⟨_, rfl⟩; (replace H : (if ((rd_T76 l0_1 x28_2).f1) = (ji27) then (spec_Multiplicity.l0 k2 a1 a2 (wrap64 (x7_2 + 1)) l0_1 (l0_1.length : Int) (wrap64 (x28_2 + 1))) else (spec_Multiplicity.l0 k2 a1 a2 x7_2 l0_1 (l0_1.length : Int) (wrap64 (x28_2 + 1)))) = some r := by first | (rw [hji27] at H; exact H) | (simp only [hji27] at H ⊢; exact H)); have hji27_ : (if a1 < a2 then a2 else a1) = ji27 := hji27; by_cases c28 : ((rd_T76 l0_1 x28_2).f1) = (ji27); rotate_left
     ·rw [if_neg c28] at H; have c28b0 : (((rd_T76 l0_1 x28_2).f1) == (ji27)) = false := beq_eq_false_iff_ne.mpr c28; have c28b1 : (((rd_T76 l0_1 x28_2).f1) != (ji27)) = true := bne_iff_ne.mpr c28; have H' := Aside0.mk H; clear H; have p104 : 0 ≤ (x28_2 : Int) := of_decide_eq_true zz4; have q104 : x28_2 < (l0_1.length : Int) := of_decide_eq_true zz4; obtain ⟨ad104, e104, hx104_0, hx104_1⟩ := at_T76 HR0_1.out x28_2 p104 q104; cases e104; replace hx104_0 := (HB.out.cell (World.block_lt_of_cell? w _ hx104_0)).trans hx104_0; replace hx104_1 := (HB.out.cell (World.block_lt_of_cell? w _ hx104_1)).trans hx104_1; replace p104 := eq_true p104; replace q104 := eq_true q104; (go_wp2_with (first | ((with_reducible refine gate_dst (N := 9) rfl ?_); (try (refine gate_guard (by rfl) ?_; dsimp only)); refine box_event ?hg (N := 9) ?hd (cs := #[.int .i64 0, .int .i64 0]) (t := 76) ?hr ?_; (case hd => rfl); (case hg => rfl); (case hr => exact zz13); intro gb105 hg w32 hbox hb; have n_ := zA7 (blk_below (g := gb101) (o := .cells #[.int .i64 a0_0, .slice (some ad104) l0_1.length c0_1] 30 (0, 0)) zz2 hb) (below_step zz0 hb) hbox (zz14 : w.heap.size ≤ gb105) (zz14 : w.heap.size ≤ gb105) (by rw [hg]; exact Nat.ne_of_lt (blk_lt (g := gb101) (o := .cells #[.int .i64 a0_0, .slice (some ad104) l0_1.length c0_1] 30 (0, 0)) zz2) : gb101 ≠ gb105) (by rw [hg]; exact Nat.ne_of_gt (blk_lt (g := gb101) (o := .cells #[.int .i64 a0_0, .slice (some ad104) l0_1.length c0_1] 30 (0, 0)) zz2) : gb105 ≠ gb101); clear BK101 HB; obtain ⟨BK101, HB, BK105, GW105, GE105, NB101_105, NB105_101⟩ := n_; clear hb hbox hg; have hnb33 := NB105_101.out; have hnc33 := NB101_105.out; have hcz34_0 := zC20 BK105; have hcz34_1 := zC21 BK105; have hfz34_0 := blk_frozen BK105.out 0; have hfz34_1 := blk_frozen BK105.out 1))); go_roundg k2; (case measure => have := HJ3.out; have := HK2.out; omega); case rel => exact ⟨(x7_2), (wrap64 (x28_2 + 1)), zz5, zz5, H', ⟨by have := HJ3.out; have := HK2.out; omega⟩, ⟨zz29⟩, ⟨zz47⟩⟩
     rw [if_pos c28] at H; have c28b0 : (((rd_T76 l0_1 x28_2).f1) == (ji27)) = true := beq_iff_eq.mpr c28; have c28b1 : (((rd_T76 l0_1 x28_2).f1) != (ji27)) = false := bne_eq_false_iff_eq.mpr c28; clear c28; have H' := Aside0.mk H; clear H; have p104 : 0 ≤ (x28_2 : Int) := of_decide_eq_true zz4; have q104 : x28_2 < (l0_1.length : Int) := of_decide_eq_true zz4; obtain ⟨ad104, e104, hx104_0, hx104_1⟩ := at_T76 HR0_1.out x28_2 p104 q104; cases e104; replace hx104_0 := (HB.out.cell (World.block_lt_of_cell? w _ hx104_0)).trans hx104_0; replace hx104_1 := (HB.out.cell (World.block_lt_of_cell? w _ hx104_1)).trans hx104_1; replace p104 := eq_true p104; replace q104 := eq_true q104; (go_wp2_with (first | ((with_reducible refine gate_dst (N := 9) rfl ?_); (try (refine gate_guard (by rfl) ?_; dsimp only)); refine box_event ?hg (N := 9) ?hd (cs := #[.int .i64 0, .int .i64 0]) (t := 76) ?hr ?_; (case hd => rfl); (case hg => rfl); (case hr => exact zz13); intro gb105 hg w29 hbox hb; have n_ := zA7 (blk_below (g := gb101) (o := .cells #[.int .i64 a0_0, .slice (some ad104) l0_1.length c0_1] 30 (0, 0)) zz2 hb) (below_step zz0 hb) hbox (zz14 : w.heap.size ≤ gb105) (zz14 : w.heap.size ≤ gb105) (by rw [hg]; exact Nat.ne_of_lt (blk_lt (g := gb101) (o := .cells #[.int .i64 a0_0, .slice (some ad104) l0_1.length c0_1] 30 (0, 0)) zz2) : gb101 ≠ gb105) (by rw [hg]; exact Nat.ne_of_gt (blk_lt (g := gb101) (o := .cells #[.int .i64 a0_0, .slice (some ad104) l0_1.length c0_1] 30 (0, 0)) zz2) : gb105 ≠ gb101); clear BK101 HB; obtain ⟨BK101, HB, BK105, GW105, GE105, NB101_105, NB105_101⟩ := n_; clear hb hbox hg; have hnb30 := NB105_101.out; have hnc30 := NB101_105.out; have hcz31_0 := zC20 BK105; have hcz31_1 := zC21 BK105; have hfz31_0 := blk_frozen BK105.out 0; have hfz31_1 := blk_frozen BK105.out 1))); go_roundg k2; (case measure => have := HJ3.out; have := HK2.out; omega); case rel => exact ⟨(wrap64 (x7_2 + 1)), (wrap64 (x28_2 + 1)), zz5, zz5, H', ⟨by have := HJ3.out; have := HK2.out; omega⟩, ⟨zz29⟩, ⟨zz47⟩⟩
end Go.Proofs.Ytkcbinohpdhbgaa.P
end

section
namespace Go.Proofs.Ytkcbinohpdhbgaa.P
open Go.RowKit Go.Proofs.YtkcbinohpdhbgaaW.PrintWords Go.Proofs.YtkcbinohpdhbgaaW.PrintLast Go.Proofs.YtkcbinohpdhbgaaW.PrintMore
attribute [local go_sem] max2_int min2_int max_two min_two max_three min_three max_four min_four
set_option linter.unusedVariables false
set_option linter.unusedSimpArgs false
mutual
def spec_LaplacianOf.l0 : Nat → List (List Int) → Int → Int → List (S76) → Option ((List (List Int)))
 | 0, _, _, _, _ => none
 | k + 1, x3, x4, x102000, x102001 => if x4 < x102000 then (spec_LaplacianOf.l1 k x3 x4 (([] : List Int)) 0 x102000 x102001) else (some x3)
def spec_LaplacianOf.l1 : Nat → List (List Int) → Int → List Int → Int → Int → List (S76) → Option ((List (List Int)))
 | 0, _, _, _, _, _, _ => none
 | k + 1, x3, x4, x5, x6, x102000, x102001 => if x6 < x102000 then (if x4 = x6 then ((spec_Valence.f k x102000 x102001 x4).bind fun t112 => (if x5.length < 17592186044416 then (spec_LaplacianOf.l1 k x3 x4 (x5 ++ [t112]) (wrap64 (x6 + 1)) x102000 x102001) else (none))) else ((spec_Multiplicity.f k x102000 x102001 x4 x6).bind fun t116 => (if x5.length < 17592186044416 then (spec_LaplacianOf.l1 k x3 x4 (x5 ++ [wrap64 (-t116)]) (wrap64 (x6 + 1)) x102000 x102001) else (none)))) else (if x3.length < 5864062014805 then (spec_LaplacianOf.l0 k (x3 ++ [x5]) (wrap64 (x4 + 1)) x102000 x102001) else (none))
end
def spec_LaplacianOf.f (k : Nat) (a0_0 : Int) (l0_1 : List (S76)) : Option ((List (List Int))) := (spec_GraphOk.f k a0_0 l0_1).bind fun t102 => (if t102 = true then (spec_LaplacianOf.l0 k (([] : List (List Int))) 0 a0_0 l0_1) else (some ([] : List (List Int))))
theorem spec_LaplacianOf.mono_l : ∀ k, (∀ y0 y1 y2 y3, LeO (spec_LaplacianOf.l0 k y0 y1 y2 y3) (spec_LaplacianOf.l0 (k + 1) y0 y1 y2 y3)) ∧ (∀ y0 y1 y2 y3 y4 y5, LeO (spec_LaplacianOf.l1 k y0 y1 y2 y3 y4 y5) (spec_LaplacianOf.l1 (k + 1) y0 y1 y2 y3 y4 y5))
 | 0 => ⟨fun _ _ _ _ r h => by simp [spec_LaplacianOf.l0] at h, fun _ _ _ _ _ _ r h => by simp [spec_LaplacianOf.l1] at h⟩
 | k + 1 => by
  obtain ⟨ih0, ih1⟩ := spec_LaplacianOf.mono_l k
  refine ⟨?_, ?_⟩
  ·intro y0 y1 y2 y3
   unfold spec_LaplacianOf.l0
   exact zm7
  ·intro y0 y1 y2 y3 y4 y5
   unfold spec_LaplacianOf.l1
   exact zm7
theorem spec_LaplacianOf.mono : ∀ a0 a1 k, LeO (spec_LaplacianOf.f k a0 a1) (spec_LaplacianOf.f (k + 1) a0 a1) := by
 intro a0 a1 k; obtain ⟨ih0, ih1⟩ := spec_LaplacianOf.mono_l k; unfold spec_LaplacianOf.f; exact zm7
set_option maxHeartbeats 8000000 in
set_option maxRecDepth 100000 in
theorem spec_LaplacianOf.calls (k : Nat) (a0_0 : Int) (A0_1 : Option Addr) (c0_1 : Nat) (l0_1 : List (S76)) (r : List (List Int)) (w : World) (hr0_1 : Kd.C k76 w A0_1 l0_1.length l0_1) (hc0_1 : l0_1.length ≤ c0_1) (h : spec_LaplacianOf.f k a0_0 l0_1 = some r) :
  Calls Try.prog 71 #[.agg #[.int .i64 a0_0, .slice A0_1 l0_1.length c0_1]] w fun e w' => ∃ v0_ : Value, e = .returned (v0_) ∧ Kd.S (Kd.slice 3 (Kd.int .i64)) 26 w' w.heap.size (fun _ => True) v0_ r ∧ Below w.heap.size w w' := by
 have hu30 := Try.underlying30; have HR0_1 := Aside0.mk hr0_1; have HC0_1 := Aside0.mk hc0_1; clear hr0_1 hc0_1; have HB := Aside0.mk (Below.refl w.heap.size w); have H : ((spec_GraphOk.f k a0_0 l0_1).bind fun t102 => (if t102 = true then (spec_LaplacianOf.l0 k (([] : List (List Int))) 0 a0_0 l0_1) else (some ([] : List (List Int))))) = some r := h; clear h; replace H := Option.bind_eq_some_iff.mp H; obtain ⟨t102, A20, H⟩ := H; (try dsimp only at H); have A2 := Aside0.mk A20; clear A20; by_cases c3 : t102 = true; rotate_left
 ·replace c3 := Bool.eq_false_iff.mpr c3; subst c3; rw [if_neg (show ¬ (false = true) by decide)] at H; obtain rfl := Option.some.inj H; go_enter Try.func71, Try.ntmps71; (go_wp2_with (first | ((with_reducible refine gate_dst (N := 1) rfl ?_); refine box_event ?hg (N := 1) ?hd (cs := #[.int .i64 a0_0, .slice A0_1 l0_1.length c0_1]) (t := 30) ?hr ?_; (case hd => rfl); (case hg => rfl); (case hr => exact zz13); intro gb101 hg w30 hbox hb; have n_ := zA4 (below_step zz1 hb) hbox (zz12 : w.heap.size ≤ gb101) (zz12 : w.heap.size ≤ gb101); clear HB; obtain ⟨HB, BK101, GW101, GE101⟩ := n_; clear hb hbox hg; have hcz31_0 := zC20 BK101; have hcz31_1 := zC21 BK101; have hfz31_0 := blk_frozen BK101.out 0; have hfz31_1 := blk_frozen BK101.out 1) | ((with_reducible refine gate_callee (f := 35) rfl ?_); refine goesL_ (some 8) rfl rfl Try.func35 (by kernel_rfl) rfl #[.agg #[.int .i64 a0_0, .slice A0_1 l0_1.length c0_1]] rfl zz3 ?_; (with_reducible refine (spec_GraphOk.calls k a0_0 _ _ l0_1 false _ ?side1 ?side2 A2.out).mono ?_); (case side1 => exact zz7); (case side2 => exact HC0_1.out); rintro e w32 ⟨rfl, hb⟩; refine ⟨_, rfl, ?_⟩; have n_ := zA2 (blk_below (g := gb101) (o := .cells #[.int .i64 a0_0, .slice A0_1 l0_1.length c0_1] 30 (0, 0)) zz2 hb) (below_step zz0 hb); clear BK101 HB; obtain ⟨BK101, HB⟩ := n_; clear hb))); go_ret; exact ⟨_, zz8, by first | exact Kd.S_nil _ _ _ _ _ | exact Kd.N_nil _ _ _ _ _ | exact Kd.V_nil _ _ _ _ _ | exact Kd.Q_nil _ _ _ _ _ | exact Kd.R_nil _ _ _ _ _, zz0⟩
 subst c3; rw [if_pos rfl] at H; obtain ⟨y103, hy_⟩ : ∃ y_ : List (List Int), y_ = (([] : List (List Int))) := ⟨_, rfl⟩; (replace H : (spec_LaplacianOf.l0 k y103 0 a0_0 l0_1) = some r := zzY); have Ny103 := Aside0.mk hy_; clear hy_; have H' := Aside0.mk H; clear H; go_enter Try.func71, Try.ntmps71; (go_wp2_with (first | ((with_reducible refine gate_dst (N := 1) rfl ?_); refine box_event ?hg (N := 1) ?hd (cs := #[.int .i64 a0_0, .slice A0_1 l0_1.length c0_1]) (t := 30) ?hr ?_; (case hd => rfl); (case hg => rfl); (case hr => exact zz13); intro gb101 hg w4 hbox hb; have n_ := zA4 (below_step zz1 hb) hbox (zz12 : w.heap.size ≤ gb101) (zz12 : w.heap.size ≤ gb101); clear HB; obtain ⟨HB, BK101, GW101, GE101⟩ := n_; clear hb hbox hg; have hcz5_0 := zC20 BK101; have hcz5_1 := zC21 BK101; have hfz5_0 := blk_frozen BK101.out 0; have hfz5_1 := blk_frozen BK101.out 1) | ((with_reducible refine gate_callee (f := 35) rfl ?_); refine goesL_ (some 8) rfl rfl Try.func35 (by kernel_rfl) rfl #[.agg #[.int .i64 a0_0, .slice A0_1 l0_1.length c0_1]] rfl zz3 ?_; (with_reducible refine (spec_GraphOk.calls k a0_0 _ _ l0_1 true _ ?side1 ?side2 A2.out).mono ?_); (case side1 => exact zz7); (case side2 => exact HC0_1.out); rintro e w6 ⟨rfl, hb⟩; refine ⟨_, rfl, ?_⟩; have n_ := zA2 (blk_below (g := gb101) (o := .cells #[.int .i64 a0_0, .slice A0_1 l0_1.length c0_1] 30 (0, 0)) zz2 hb) (below_step zz0 hb); clear BK101 HB; obtain ⟨BK101, HB⟩ := n_; clear hb) | ((with_reducible refine gate_dst (N := 10) rfl ?_); refine Kd.S_lit (Kd.slice 3 (Kd.int .i64)) _ 26 ?hg (N := 10) ?hd (xs := ([] : List (List Int))) (inner := []) (ok := fun _ => True) (okp := fun _ => True) ?hr ?hp (fun _ hk => hk) trivial (Below.refl _ _) (Nat.le_refl _) (by simp) ?_; (case hd => rfl); (case hg => rfl); (case hr => exact zz13); (case hp => exact (Reps.none _ _)); intro v104 w7 ho8 hb hg_ hnew_; clear hg_ hnew_; (first | rw [← Ny103.out] at ho8 | (simp only [Int.reduceToNat] at ho8; rw [← Ny103.out] at ho8)); have n_ := zA3 (Kd.S_lower ho8 (below_size zz0)) (blk_below (g := gb101) (o := .cells #[.int .i64 a0_0, .slice A0_1 l0_1.length c0_1] 30 (0, 0)) zz2 hb) (below_step zz0 hb); clear BK101 HB; obtain ⟨HO105, BK101, HB⟩ := n_; clear hb ho8))); (go_loopg [3, 4] k (fun kq v3 v4 w' => ∃ (x3_1 : List (List Int)) (x4_1 : Int), v4 = .int .i64 x4_1 ∧ Aside0 (spec_LaplacianOf.l0 kq x3_1 x4_1 a0_0 l0_1 = some r) ∧ Aside0 (kq ≤ k) ∧ Aside0 (Kd.S (Kd.slice 3 (Kd.int .i64)) 26 w' w.heap.size (fun _ => True) v3 x3_1) ∧ Aside0 (w'.heap[gb101]? = some (.cells #[.int .i64 a0_0, (.slice A0_1 l0_1.length c0_1)] 30 (0, 0))) ∧ Aside0 (Below w.heap.size w w'))); case atStart => exact ⟨(y103), (0), zz5, H', ⟨Nat.le_refl _⟩, ⟨by (with_reducible repeat (first | apply Kd.S_alloc | apply Kd.S_drewN | apply Kd.S_drew)); exact HO105.out⟩, ⟨zz2⟩, ⟨zz0⟩⟩
 case round =>
  clear H'; (try clear p2); (try clear c3); (try clear c7); (try clear hcz5_0); (try clear hcz5_1); (try clear hfz5_0); (try clear hfz5_1); obtain ⟨x3_1, x4_1, rfl, HA, HK1, HO_3, BK101, HB⟩ := hrel
  cases gk with
  | zero => exact absurd HA.out (by simp [spec_LaplacianOf.l0])
  | succ k1 =>
   have H := HA.out; clear HA; simp only [spec_LaplacianOf.l0] at H; by_cases c9 : x4_1 < a0_0; rotate_left
   ·rw [if_neg c9] at H; have c9b0 := decide_eq_false c9; clear c9; obtain rfl := Option.some.inj H; have hcz29_0 := zC20 BK101; have hcz29_1 := zC21 BK101; have hfz29_0 := blk_frozen BK101.out 0; have hfz29_1 := blk_frozen BK101.out 1; go_wp2; go_ret; exact ⟨_, zz8, by (with_reducible repeat (first | apply Kd.S_alloc | apply Kd.S_drewN | apply Kd.S_drew)); exact HO_3.out, zz0⟩
   rw [if_pos c9] at H; have c9b0 := decide_eq_true c9; clear c9; obtain ⟨y106, hy_⟩ : ∃ y_ : List Int, y_ = (([] : List Int)) := ⟨_, rfl⟩; (replace H : (spec_LaplacianOf.l1 k1 x3_1 x4_1 y106 0 a0_0 l0_1) = some r := zzY); have Ny106 := Aside0.mk hy_; clear hy_; have H' := Aside0.mk H; clear H; have hcz10_0 := zC20 BK101; have hcz10_1 := zC21 BK101; have hfz10_0 := blk_frozen BK101.out 0; have hfz10_1 := blk_frozen BK101.out 1; (go_wp2_with (first | ((with_reducible refine gate_dst (N := 17) rfl ?_); refine Kd.R_lit (Kd.int .i64) _ 3 ?hg (N := 17) ?hd (xs := ([] : List Int)) (inner := []) (ok := fun _ => True) (okp := fun _ => True) ?hr ?hp (fun _ hk => hk) trivial (Below.refl _ _) (Nat.le_refl _) (by simp) ?_; (case hd => rfl); (case hg => rfl); (case hr => exact zz13); (case hp => exact (Reps.none _ _)); intro v107 w11 ho12 hb hg_ hnew_; clear hg_ hnew_; (first | rw [← Ny106.out] at ho12 | (simp only [Int.reduceToNat] at ho12; rw [← Ny106.out] at ho12)); have n_ := zA4 (Kd.S_elder' zz38 (Kd.R_base ho12) hb) (Kd.R_lower ho12 (below_size zz0)) (blk_below (g := gb101) (o := .cells #[.int .i64 a0_0, .slice A0_1 l0_1.length c0_1] 30 (0, 0)) zz2 hb) (below_step zz0 hb); clear HO_3 BK101 HB; obtain ⟨HO_3, HO108, BK101, HB⟩ := n_; clear hb ho12))); (go_loopg [5, 6] k1 (fun kq v5 v6 w' => ∃ (x5_2 : List Int) (x6_2 : Int), v6 = .int .i64 x6_2 ∧ Aside0 (spec_LaplacianOf.l1 kq x3_1 x4_1 x5_2 x6_2 a0_0 l0_1 = some r) ∧ Aside0 (kq ≤ k1) ∧ Aside0 (Kd.S (Kd.slice 3 (Kd.int .i64)) 26 w' w.heap.size (fun k_ => some k_ ≠ (v5 : Value).ownBlock) u3 x3_1) ∧ Aside0 (Kd.R (Kd.int .i64) 3 w' w.heap.size (fun _ => True) v5 x5_2) ∧ Aside0 (w'.heap[gb101]? = some (.cells #[.int .i64 a0_0, (.slice A0_1 l0_1.length c0_1)] 30 (0, 0))) ∧ Aside0 (Below w.heap.size w w'))); case atStart => exact ⟨(y106), (0), zz5, H', ⟨Nat.le_refl _⟩, ⟨zz44⟩, ⟨by (with_reducible repeat (first | apply Kd.R_alloc | apply Kd.R_drewN | apply Kd.R_drew)); exact HO108.out⟩, ⟨zz2⟩, ⟨zz0⟩⟩
   case round =>
    clear H'; (try clear p2); (try clear c3); (try clear c7); (try clear c9); (try clear c9b0); (try clear hcz10_0); (try clear hcz10_1); (try clear hcz5_0); (try clear hcz5_1); (try clear hfz10_0); (try clear hfz10_1); (try clear hfz5_0); (try clear hfz5_1); (try clear p2); obtain ⟨x5_2, x6_2, rfl, HA, HK2, HO_3, HO_5, BK101, HB⟩ := hrel
    cases gk with
    | zero => exact absurd HA.out (by simp [spec_LaplacianOf.l1])
    | succ k2 =>
     have H := HA.out; clear HA; simp only [spec_LaplacianOf.l1] at H; by_cases c13 : x6_2 < a0_0; rotate_left
     ·rw [if_neg c13] at H; have c13b0 := decide_eq_false c13; clear c13; by_cases c25 : x3_1.length < 5864062014805; rotate_left
      ·rw [if_neg c25] at H; exact absurd H (by simp)
      rw [if_pos c25] at H; have LMc25 := Aside0.mk c25; clear c25; obtain ⟨y109, hy_⟩ : ∃ y_ : List (List Int), y_ = (x3_1 ++ [x5_2]) := ⟨_, rfl⟩; (replace H : (spec_LaplacianOf.l0 k2 y109 (wrap64 (x4_1 + 1)) a0_0 l0_1) = some r := zzY); have Ny109 := Aside0.mk hy_; clear hy_; have H' := Aside0.mk H; clear H; have hcz26_0 := zC20 BK101; have hcz26_1 := zC21 BK101; have hfz26_0 := blk_frozen BK101.out 0; have hfz26_1 := blk_frozen BK101.out 1; obtain ⟨Ao28, co28, eo28⟩ := Kd.R_slice HO_5.out; subst eo28; (go_wp2_with (first | ((with_reducible refine gate_builtin (b := .append) (xs := #[.tmp 41, .tmp 43]) rfl ?_); at_builtin; refine Kd.S_append (Kd.slice 3 (Kd.int .i64)) (w0 := w) w.heap.size rfl (.tmp 41) (.tmp 43) 50 26 (.slice none 0 0) 24 rfl Try.underlying50 info26 rfl (by decide) (by omega) u3 x3_1 x5_2 [.slice Ao28 x5_2.length co28] (fun _ => True) (fun k_ => some k_ = (.slice Ao28 x5_2.length co28 : Value).ownBlock) rfl rfl ?aP (fun k_ hk_ => ((Kd.R_mono (ok' := fun k_ => ((fun _ => True)) k_ ∧ some k_ ≠ (u3 : Value).ownBlock) (Kd.R_apart' (HO_5.out) (Kd.S_typed HO_3.out) (by decide)) (fun k_ hk => ⟨trivial, hk.2⟩))).1 k_ hk_.symm) ?aF ?aO ?aB ?aS ?aL ?_; (case aP => exact Kd.M_row (Kd.R_mono (Kd.R_tight rfl (Kd.R_mono (ok' := fun k_ => ((fun _ => True)) k_ ∧ some k_ ≠ (u3 : Value).ownBlock) (Kd.R_apart' (HO_5.out) (Kd.S_typed HO_3.out) (by decide)) (fun k_ hk => ⟨trivial, hk.2⟩))) (fun _ h_ => h_))); (case aB => exact zz0); (case aF => exact (fun _ _ => trivial)); (case aO => exact (by (with_reducible repeat (first | apply Kd.S_alloc | apply Kd.S_drewN | apply Kd.S_drew)); exact Kd.S_mono HO_3.out (fun k_ hk => ⟨trivial, fun e_ => hk e_⟩))); (case aS => exact (below_size zz0)); (case aL => have := LMc25.out; omega); intro v110 w27 ho hb hg hat; rw [← Ny109.out] at ho; have n_ := zA3 (blk_grown (g := gb101) (o := .cells #[.int .i64 a0_0, .slice A0_1 l0_1.length c0_1] 30 (0, 0)) zz2 hg (Kd.S_ne HO_3.out BK101.out (by decide))) hb ho; clear BK101 HB HO_3 HO_5; obtain ⟨BK101, HB, HO111⟩ := n_; clear ho hb hg hat))); go_roundg k2; (case measure => have := HK1.out; have := HK2.out; omega); case rel => exact ⟨(y109), (wrap64 (x4_1 + 1)), zz5, H', ⟨zz37⟩, ⟨by (with_reducible repeat (first | apply Kd.S_alloc | apply Kd.S_drewN | apply Kd.S_drew)); exact HO111.out⟩, ⟨zz2⟩, ⟨zz0⟩⟩
     rw [if_pos c13] at H; have c13b0 := decide_eq_true c13; clear c13; by_cases c14 : x4_1 = x6_2; rotate_left
     ·rw [if_neg c14] at H; have c14b0 : (x4_1 == x6_2) = false := beq_eq_false_iff_ne.mpr c14; have c14b1 : (x4_1 != x6_2) = true := bne_iff_ne.mpr c14; replace H := Option.bind_eq_some_iff.mp H; obtain ⟨t116, A200, H⟩ := H; (try dsimp only at H); have A20 := Aside0.mk A200; clear A200; by_cases c21 : x5_2.length < 17592186044416; rotate_left
      ·rw [if_neg c21] at H; exact absurd H (by simp)
      rw [if_pos c21] at H; have LMc21 := Aside0.mk c21; clear c21; obtain ⟨y117, hy_⟩ : ∃ y_ : List Int, y_ = (x5_2 ++ [wrap64 (-t116)]) := ⟨_, rfl⟩; (replace H : (spec_LaplacianOf.l1 k2 x3_1 x4_1 y117 (wrap64 (x6_2 + 1)) a0_0 l0_1) = some r := zzY); have Ny117 := Aside0.mk hy_; clear hy_; have H' := Aside0.mk H; clear H; have hcz22_0 := zC20 BK101; have hcz22_1 := zC21 BK101; have hfz22_0 := blk_frozen BK101.out 0; have hfz22_1 := blk_frozen BK101.out 1; (go_wp2_with (first | ((with_reducible refine gate_callee (f := 97) rfl ?_); refine goesL_ (some 37) rfl rfl Try.func97 (by kernel_rfl) rfl #[.agg #[.int .i64 a0_0, .slice A0_1 l0_1.length c0_1], .int .i64 x4_1, .int .i64 x6_2] rfl zz3 ?_; (with_reducible refine (spec_Multiplicity.calls k2 a0_0 _ _ l0_1 x4_1 x6_2 t116 _ ?side1 ?side2 A20.out).mono ?_); (case side1 => exact zz7); (case side2 => exact HC0_1.out); rintro e w23 ⟨rfl, hb⟩; refine ⟨_, rfl, ?_⟩; have n_ := zA4 (Kd.S_below zz38 hb) (Kd.R_below zz22 hb) (blk_below (g := gb101) (o := .cells #[.int .i64 a0_0, .slice A0_1 l0_1.length c0_1] 30 (0, 0)) zz2 hb) (below_step zz0 hb); clear HO_3 HO_5 BK101 HB; obtain ⟨HO_3, HO_5, BK101, HB⟩ := n_; clear hb) | ((with_reducible refine gate_builtin (b := .append) (xs := #[.tmp 33, .tmp 39]) rfl ?_); at_builtin; refine Kd.R_append (Kd.int .i64) (w0 := w) w.heap.size rfl (.tmp 33) (.tmp 39) 26 3 (.int .i64 0) 8 rfl Try.underlying26 info3 rfl (by decide) (by omega) u5 x5_2 (wrap64 (-t116)) [.int .i64 (wrap64 (-t116))] (fun _ => True) (fun _ => False) rfl rfl ?aP (fun _ hk => hk.elim) ?aF ?aO ?aB ?aS ?aL ?_; (case aP => exact rfl); (case aB => exact zz0); (case aF => exact (fun _ _ => trivial)); (case aO => exact zz22); (case aS => exact (below_size zz0)); (case aL => have := LMc21.out; omega); intro v118 w24 ho hb hg hat; rw [← Ny117.out] at ho; have n_ := zA4 (Kd.S_after (ok := (fun _ => True)) zz43 hg hat) (blk_grown (g := gb101) (o := .cells #[.int .i64 a0_0, .slice A0_1 l0_1.length c0_1] 30 (0, 0)) zz2 hg (Kd.R_ne HO_5.out BK101.out (by decide))) hb ho; clear HO_3 BK101 HB HO_5; obtain ⟨HO_3, BK101, HB, HO119⟩ := n_; clear ho hb hg hat))); go_roundg k2; (case measure => have := HK1.out; have := HK2.out; omega); case rel => exact ⟨(y117), (wrap64 (x6_2 + 1)), zz5, H', ⟨zz37⟩, ⟨zz44⟩, ⟨by (with_reducible repeat (first | apply Kd.R_alloc | apply Kd.R_drewN | apply Kd.R_drew)); exact HO119.out⟩, ⟨zz2⟩, ⟨zz0⟩⟩
     rw [if_pos c14] at H; have c14b0 : (x4_1 == x6_2) = true := beq_iff_eq.mpr c14; have c14b1 : (x4_1 != x6_2) = false := bne_eq_false_iff_eq.mpr c14; clear c14; replace H := Option.bind_eq_some_iff.mp H; obtain ⟨t112, A150, H⟩ := H; (try dsimp only at H); have A15 := Aside0.mk A150; clear A150; by_cases c16 : x5_2.length < 17592186044416; rotate_left
     ·rw [if_neg c16] at H; exact absurd H (by simp)
     rw [if_pos c16] at H; have LMc16 := Aside0.mk c16; clear c16; obtain ⟨y113, hy_⟩ : ∃ y_ : List Int, y_ = (x5_2 ++ [t112]) := ⟨_, rfl⟩; (replace H : (spec_LaplacianOf.l1 k2 x3_1 x4_1 y113 (wrap64 (x6_2 + 1)) a0_0 l0_1) = some r := zzY); have Ny113 := Aside0.mk hy_; clear hy_; have H' := Aside0.mk H; clear H; have hcz17_0 := zC20 BK101; have hcz17_1 := zC21 BK101; have hfz17_0 := blk_frozen BK101.out 0; have hfz17_1 := blk_frozen BK101.out 1; (go_wp2_with (first | ((with_reducible refine gate_callee (f := 96) rfl ?_); refine goesL_ (some 30) rfl rfl Try.func96 (by kernel_rfl) rfl #[.agg #[.int .i64 a0_0, .slice A0_1 l0_1.length c0_1], .int .i64 x4_1] rfl zz3 ?_; (with_reducible refine (spec_Valence.calls k2 a0_0 _ _ l0_1 x4_1 t112 _ ?side1 ?side2 A15.out).mono ?_); (case side1 => exact zz7); (case side2 => exact HC0_1.out); rintro e w18 ⟨rfl, hb⟩; refine ⟨_, rfl, ?_⟩; have n_ := zA4 (Kd.S_below zz38 hb) (Kd.R_below zz22 hb) (blk_below (g := gb101) (o := .cells #[.int .i64 a0_0, .slice A0_1 l0_1.length c0_1] 30 (0, 0)) zz2 hb) (below_step zz0 hb); clear HO_3 HO_5 BK101 HB; obtain ⟨HO_3, HO_5, BK101, HB⟩ := n_; clear hb) | ((with_reducible refine gate_builtin (b := .append) (xs := #[.tmp 27, .tmp 31]) rfl ?_); at_builtin; refine Kd.R_append (Kd.int .i64) (w0 := w) w.heap.size rfl (.tmp 27) (.tmp 31) 26 3 (.int .i64 0) 8 rfl Try.underlying26 info3 rfl (by decide) (by omega) u5 x5_2 t112 [.int .i64 t112] (fun _ => True) (fun _ => False) rfl rfl ?aP (fun _ hk => hk.elim) ?aF ?aO ?aB ?aS ?aL ?_; (case aP => exact rfl); (case aB => exact zz0); (case aF => exact (fun _ _ => trivial)); (case aO => exact zz22); (case aS => exact (below_size zz0)); (case aL => have := LMc16.out; omega); intro v114 w19 ho hb hg hat; rw [← Ny113.out] at ho; have n_ := zA4 (Kd.S_after (ok := (fun _ => True)) zz43 hg hat) (blk_grown (g := gb101) (o := .cells #[.int .i64 a0_0, .slice A0_1 l0_1.length c0_1] 30 (0, 0)) zz2 hg (Kd.R_ne HO_5.out BK101.out (by decide))) hb ho; clear HO_3 BK101 HB HO_5; obtain ⟨HO_3, BK101, HB, HO115⟩ := n_; clear ho hb hg hat))); go_roundg k2; (case measure => have := HK1.out; have := HK2.out; omega); case rel => exact ⟨(y113), (wrap64 (x6_2 + 1)), zz5, H', ⟨zz37⟩, ⟨zz44⟩, ⟨by (with_reducible repeat (first | apply Kd.R_alloc | apply Kd.R_drewN | apply Kd.R_drew)); exact HO115.out⟩, ⟨zz2⟩, ⟨zz0⟩⟩
end Go.Proofs.Ytkcbinohpdhbgaa.P
end

section
namespace Go.Proofs.Ytkcbinohpdhbgaa.Cf
set_option linter.unusedVariables false
set_option linter.unusedSimpArgs false
open Go.RowKit Go.Proofs.YtkcbinohpdhbgaaW.PrintWords Go.Proofs.YtkcbinohpdhbgaaW.PrintLast Go.Proofs.YtkcbinohpdhbgaaW.PrintMore
/-- The rows' values rs and lists L; row j's blocks are okj j. -/
structure RowsO (e1 e : Nat) (w : World) (base : Nat) (okj : Nat → Nat → Prop) (v : Value) (rs : List Value) (L : List (List Int)) : Prop where
  len : rs.length = L.length
  own : w.ownsRow base e1 1 v L.length rs
  row : ∀ j x u, L[j]? = some x → rs[j]? = some u → Kd.R (Kd.int .i64) e w base (okj j) u x
  apart : ∀ i j k, okj i k → okj j k → i = j
  off : ∀ j k, okj j k → some k ≠ v.ownBlock
theorem rows_open {e1 e : Nat} {w : World} {base : Nat} {ok : Nat → Prop} {v : Value} {L : List (List Int)} (h : Kd.S (Kd.slice e (Kd.int .i64)) e1 w base ok v L) :
    ∃ okj rs, RowsO e1 e w base okj v rs L ∧ (∀ k, v.ownBlock = some k → ok k) ∧ ∀ j k, okj j k → ok k := by
  obtain ⟨f, h0, inner, ho, hr⟩ := h
  rw [List.length_zipIdx] at ho
  have hl : inner.length = L.length := by have := ho.1; simpa [Kd.tag, Kd.slice] using this
  refine ⟨fun j k => (ok k ∧ some k ≠ v.ownBlock) ∧ f k = j, inner, ⟨hl, ho, fun j x u hx hu => ?_, fun i j k hi hj => hi.2.symm.trans hj.2, fun j k hk => hk.1.2⟩, h0, fun j k hk => hk.1.1⟩
  have h1 := hr.2 j (x, j) (by rw [List.getElem?_zipIdx, hx]; simp)
  obtain ⟨v', hv', hR⟩ := h1
  have hs : (Kd.tag f (Kd.slice e (Kd.int .i64))).sz = 1 := rfl
  rw [hs, Nat.mul_one] at hv'
  have : inner[j]? = some v' := by
    have := congrArg (fun l => l[0]?) hv'
    simpa [List.getElem?_take, List.getElem?_drop] using this
  rw [hu] at this
  obtain rfl := Option.some.inj this
  exact hR
/-- The first i rows but for row q, element q left out. -/
def keepF (q : Nat) (L : List (List Int)) : Nat → List (List Int)
  | 0 => []
  | i + 1 => if i = q then keepF q L i else keepF q L i ++ [(L.getD i []).eraseIdx q]
theorem keepF_len (q : Nat) (L : List (List Int)) : ∀ i, (keepF q L i).length ≤ i
  | 0 => Nat.le_refl _
  | i + 1 => by
    have := keepF_len q L i
    unfold keepF
    split
    · omega
    · simp; omega
def redF (q : Int) (L : List (List Int)) : Option (List (List Int)) := if 0 ≤ q ∧ q ≤ 1000000 ∧ L.length ≤ 1000000 ∧ ∀ r ∈ L, q < (r.length : Int) then some (keepF q.toNat L L.length) else none
end Go.Proofs.Ytkcbinohpdhbgaa.Cf
end

section
namespace Go.Proofs.Ytkcbinohpdhbgaa.P
open Go.RowKit Go.Proofs.YtkcbinohpdhbgaaW.PrintWords Go.Proofs.YtkcbinohpdhbgaaW.PrintLast Go.Proofs.YtkcbinohpdhbgaaW.PrintMore
attribute [local go_sem] max2_int min2_int max_two min_two max_three min_three max_four min_four
set_option linter.unusedVariables false
set_option linter.unusedSimpArgs false
def spec_ReducedLaplacian.f (k : Nat) (a0_0 : Int) (l0_1 : List S76) (a1 : Int) : Option (List (List Int)) := (spec_GraphOk.f k a0_0 l0_1).bind fun t => if t = true then (spec_l01In.f a1 0 (wrap64 (a0_0 - 1))).bind fun u => if u = true then (spec_LaplacianOf.f k a0_0 l0_1).bind fun L => if ∀ r ∈ L, r.length ≤ 1000000 then Cf.redF a1 L else none else some [] else some []
theorem spec_ReducedLaplacian.mono : ∀ a0 a1 a2 k, LeO (spec_ReducedLaplacian.f k a0 a1 a2) (spec_ReducedLaplacian.f (k + 1) a0 a1 a2) := by
 intro a0 a1 a2 k; unfold spec_ReducedLaplacian.f; exact LeO.bind (spec_GraphOk.mono _ _ k) fun t => LeO.ite (LeO.bind (LeO.refl _) fun u => LeO.ite (LeO.bind (spec_LaplacianOf.mono _ _ k) fun _ => LeO.refl _) (LeO.refl _)) (LeO.refl _)
def spec_ReducedLaplacian.T8 : Bool × List (List Nat × List Nat) := (true, [([], []), ([], []), ([], []), ([], []), ([2, 3], [2, 3]), ([1, 4], [1, 4]), ([], []), ([], []), ([7], [7]), ([6, 8], [6, 8]), ([5, 9, 5], [5, 9]), ([10], [10]), ([0, 11, 10], [0, 11]), ([12, 12, 0, 1, 2, 3, 4, 5, 6, 7, 8, 9, 10, 11, 12], [0, 12])])
def spec_ReducedLaplacian.B8 : List Nat := [0, 0, 0, 0, 12, 30, 0, 0, 128, 448, 1022, 2046, 4095, 8191]
theorem spec_ReducedLaplacian.tab8 : rtab .any (opsOf Try.f37 8) = spec_ReducedLaplacian.T8 := by kernel_rfl
theorem spec_ReducedLaplacian.bits8 : waitsOk spec_ReducedLaplacian.T8.2 spec_ReducedLaplacian.B8 = true := by kernel_rfl
set_option maxHeartbeats 8000000 in
set_option maxRecDepth 1000000 in
theorem spec_ReducedLaplacian.calls (k : Nat) (a0_0 : Int) (A0_1 : Option Addr) (c0_1 : Nat) (l0_1 : List S76) (a1 : Int) (r : List (List Int)) (w : World) (hr0_1 : Kd.C k76 w A0_1 l0_1.length l0_1) (hc0_1 : l0_1.length ≤ c0_1) (h : spec_ReducedLaplacian.f k a0_0 l0_1 a1 = some r) :
  Calls Try.prog 37 #[.agg #[.int .i64 a0_0, .slice A0_1 l0_1.length c0_1], .int .i64 a1] w fun e w' => ∃ v0_ : Value, e = .returned (v0_) ∧ Kd.S (Kd.slice 3 (Kd.int .i64)) 26 w' w.heap.size (fun _ => True) v0_ r ∧ Below w.heap.size w w' := by
 have hu30 := Try.underlying30; have HR := Aside0.mk hr0_1; have HC := Aside0.mk hc0_1; clear hr0_1 hc0_1; have H : ((spec_GraphOk.f k a0_0 l0_1).bind fun t => if t = true then (spec_l01In.f a1 0 (wrap64 (a0_0 - 1))).bind fun u => if u = true then (spec_LaplacianOf.f k a0_0 l0_1).bind fun L => if ∀ r ∈ L, r.length ≤ 1000000 then Cf.redF a1 L else none else some [] else some []) = some r := h; clear h; replace H := Option.bind_eq_some_iff.mp H; obtain ⟨t, hv, H⟩ := H; have HV := Aside0.mk hv; clear hv; have HB := Aside0.mk (below_alloc (Below.refl w.heap.size w) (.cells #[.int .i64 a0_0, .slice A0_1 l0_1.length c0_1] 30)); have BK := Aside0.mk (heap_alloc_new w (.cells #[.int .i64 a0_0, .slice A0_1 l0_1.length c0_1] 30))
 cases t with
 | false =>
  obtain rfl := Option.some.inj H; clear H; go_enter Try.func37, Try.ntmps37; (go_wp2_with fail); refine (spec_GraphOk.calls k _ _ _ l0_1 false _ (Kd.C_below HR.out HB.out) HC.out HV.out).mono ?_; rintro e w1 ⟨rfl, hb⟩; have HB1 := Aside0.mk (below_step HB.out hb); clear hb; go_wp2; go_ret; exact ⟨_, rfl, Kd.S_nil _ _ _ _ _, HB1.out⟩
 | true =>
  rw [if_pos rfl] at H; replace H := Option.bind_eq_some_iff.mp H; obtain ⟨u, hu, H⟩ := H; have HU := Aside0.mk hu; clear hu
  cases u with
  | false =>
   obtain rfl := Option.some.inj H; clear H; go_enter Try.func37, Try.ntmps37; (go_wp2_with fail); refine (spec_GraphOk.calls k _ _ _ l0_1 true _ (Kd.C_below HR.out HB.out) HC.out HV.out).mono ?_; rintro e w1 ⟨rfl, hb⟩; have HB1 := Aside0.mk (below_step HB.out hb); have BK1 := Aside0.mk (blk_below BK.out hb); clear hb; have hz0 : w1.cell? ⟨w.heap.size, 0, none⟩ = some (.int .i64 a0_0) := (blk_cell BK1.out 0).trans rfl; have hz1 : w1.cell? ⟨w.heap.size, 1, none⟩ = some (.slice A0_1 l0_1.length c0_1) := (blk_cell BK1.out 1).trans rfl; (go_wp2_with fail); refine (spec_l01In.calls _ _ _ false _ HU.out).mono ?_; rintro e w1a ⟨rfl, hd⟩; have HB1a := Aside0.mk (below_step HB1.out hd.below); clear hd; go_wp2; go_ret; exact ⟨_, rfl, Kd.S_nil _ _ _ _ _, HB1a.out⟩
  | true =>
   rw [if_pos rfl] at H; replace H := Option.bind_eq_some_iff.mp H; obtain ⟨L, hL, H⟩ := H; have HL := Aside0.mk hL; clear hL; (split at H); (case isFalse => cases H); rename_i hlen; have HLEN := Aside0.mk hlen; clear hlen; unfold Cf.redF at H; split at H
   ·rename_i hq; obtain rfl := Option.some.inj H; clear H; obtain ⟨hq0, hq1, hq2, hq3⟩ := hq; obtain ⟨q, rfl⟩ := Int.eq_ofNat_of_zero_le hq0; rw [Int.toNat_natCast]; have HQ := Aside0.mk (show q ≤ 1000000 ∧ L.length ≤ 1000000 ∧ ∀ r ∈ L, q < r.length from ⟨by omega, hq2, fun r hr => by have := hq3 r hr; omega⟩); clear hq0 hq1 hq2 hq3; go_enter Try.func37, Try.ntmps37; (go_wp2_with fail); refine (spec_GraphOk.calls k _ _ _ l0_1 true _ (Kd.C_below HR.out HB.out) HC.out HV.out).mono ?_; rintro e w1 ⟨rfl, hb⟩; have HB1 := Aside0.mk (below_step HB.out hb); have BK1 := Aside0.mk (blk_below BK.out hb); clear hb; have hz0 : w1.cell? ⟨w.heap.size, 0, none⟩ = some (.int .i64 a0_0) := (blk_cell BK1.out 0).trans rfl; have hz1 : w1.cell? ⟨w.heap.size, 1, none⟩ = some (.slice A0_1 l0_1.length c0_1) := (blk_cell BK1.out 1).trans rfl; (go_wp2_with fail); refine (spec_l01In.calls _ _ _ true _ HU.out).mono ?_; rintro e w1a ⟨rfl, hd⟩; have HB1a := Aside0.mk (below_step HB1.out hd.below); have BK1a := Aside0.mk (blk_below BK1.out hd.below); clear hd hz0 hz1; have hz0 : w1a.cell? ⟨w.heap.size, 0, none⟩ = some (.int .i64 a0_0) := (blk_cell BK1a.out 0).trans rfl; have hz1 : w1a.cell? ⟨w.heap.size, 1, none⟩ = some (.slice A0_1 l0_1.length c0_1) := (blk_cell BK1a.out 1).trans rfl; (go_wp2_with (first | ((with_reducible refine gate_dst (N := 19) rfl ?_); refine Kd.S_lit (w0 := w) (Kd.slice 3 (Kd.int .i64)) w.heap.size 26 ?hg (N := 19) ?hd (xs := ([] : List (List Int))) (inner := []) (ok := fun _ => True) (okp := fun _ => True) ?hr ?hp (fun _ hk => hk) trivial HB1a.out (below_size HB1a.out) (by simp) ?_; (case hd => rfl); (case hg => rfl); (case hr => exact zz13); (case hp => exact (Reps.none _ _)); intro v19 w1b ho hb hg_ hnew_; have HS0 := Aside0.mk ho; have HB1b := Aside0.mk hb; have BK1b := Aside0.mk (blk_grown BK1a.out hg_ (by simp)); clear ho hb hg_ hnew_; have hy0 : w1b.cell? ⟨w.heap.size, 0, none⟩ = some (.int .i64 a0_0) := (blk_cell BK1b.out 0).trans rfl; have hy1 : w1b.cell? ⟨w.heap.size, 1, none⟩ = some (.slice A0_1 l0_1.length c0_1) := (blk_cell BK1b.out 1).trans rfl))); refine (spec_LaplacianOf.calls k _ _ _ l0_1 L _ (Kd.C_below HR.out HB1b.out) HC.out HL.out).mono ?_; rintro e w2 ⟨vL, rfl, hS, hb⟩; have HB2 := Aside0.mk (below_step HB1b.out hb); obtain ⟨AL, cL, eL, hcL, _⟩ := Kd.S_reads hS; subst eL; have HSL := Aside0.mk (Kd.S_mono (Kd.S_bound hS) (ok' := fun k => w1b.heap.size ≤ k ∧ k < w2.heap.size) fun k hk => ⟨hk.2.1, hk.2.2.1⟩); have HSI := Aside0.mk (Kd.S_mono (Kd.S_bound (Kd.S_below (Kd.S_bound HS0.out) hb)) (ok' := fun k => k < w1b.heap.size ∨ w2.heap.size ≤ k) fun k hk => .inl hk.1.2.2.1); have HW := Aside0.mk hb.size; have hLl : L.length ≤ cL := hcL; clear hS hb hcL hz0 hz1 hy0 hy1 HS0; go_wp2; (go_loopw [5, 23] (fun v5 v23 wr => ∃ i : Nat, v23 = .int .i64 (i : Int) ∧ Aside0 (i ≤ L.length ∧ w2.heap.size ≤ wr.heap.size) ∧ Aside0 (Below w.heap.size w wr) ∧ Aside0 (Kd.S (Kd.slice 3 (Kd.int .i64)) 26 wr w1b.heap.size (fun k => w1b.heap.size ≤ k ∧ k < w2.heap.size) (.slice AL L.length cL) L) ∧ Aside0 (Kd.S (Kd.slice 3 (Kd.int .i64)) 26 wr w.heap.size (fun k => k < w1b.heap.size ∨ w2.heap.size ≤ k) v5 (Cf.keepF q L i))) (fun _ v _ => L.length - (intOf v).toNat)); case atStart => exact ⟨0, rfl, ⟨Nat.zero_le _, Nat.le_refl _⟩, HB2, HSL, HSI⟩
    case round =>
     obtain ⟨i, rfl, HI, HBr, HLr, HS⟩ := hrel; by_cases hlt : i < L.length; rotate_left
     ·have c0 : decide ((i : Int) < (L.length : Int)) = false := decide_eq_false (by omega); (have hi : i = L.length := by have := HI.out; omega); subst hi; clear hlt; go_wp2; go_ret; exact ⟨_, rfl, Kd.S_mono HS.out (fun _ _ => trivial), HBr.out⟩
     have c0 : decide ((i : Int) < (L.length : Int)) = true := decide_eq_true (by omega); obtain ⟨x, hxi⟩ : ∃ x, L[i]? = some x := ⟨_, List.getElem?_eq_getElem hlt⟩
     have hx : rd_L3 L (i : Int) = x := by
      unfold rd_L3; rw [Int.toNat_natCast, List.getD_eq_getElem?_getD, hxi]; rfl
     (have p1 : (0 : Int) ≤ (i : Int) := by omega); (have p2 : (i : Int) < (L.length : Int) := by omega); obtain ⟨gL, Ai, ci, eg, hcell, hci, hCi⟩ := at_L3 (Kd.S_reads' HLr.out).2.2 (i : Int) p1 p2; subst eg; rw [hx] at hcell hci hCi; rw [Int.toNat_natCast] at hcell; have HRi := Aside0.mk hCi; have HCi := Aside0.mk hci; (have hib : (i : Int) ≤ 1000000 := by have := HQ.out.2.1; omega); (have hq0 : (0 : Int) ≤ (q : Int) := by omega); (have hqb : (q : Int) ≤ 1000000 := by have := HQ.out.1; omega); have HLT := Aside0.mk hlt; have HXI := Aside0.mk hxi; clear hxi hlt hCi hci hx; by_cases hq : i = q
     ·(have c1 : ((i : Int) == (q : Int)) = true := by simp [hq]); (have c2 : ((i : Int) != (q : Int)) = false := by simp [hq]); have HQI := Aside0.mk hq; clear hq; go_wp2; go_roundw
      case rel =>
       refine ⟨i + 1, by go_num, ⟨by have := HLT.out; omega, HI.out.2⟩, HBr, HLr, ⟨?_⟩⟩; have e : Cf.keepF q L (i + 1) = Cf.keepF q L i := if_pos HQI.out; rw [e]; exact HS.out
      case measure =>
       have := HLT.out; (simp [intOf]); omega
     (have c1 : ((i : Int) == (q : Int)) = false := by simp; omega); (have c2 : ((i : Int) != (q : Int)) = true := by simp; omega); have HQI := Aside0.mk hq; clear hq; have hql : q < x.length := HQ.out.2.2 x (List.mem_of_getElem? HXI.out); have HXL := Aside0.mk (show q < x.length ∧ x.length ≤ 1000000 from ⟨hql, HLEN.out x (List.mem_of_getElem? HXI.out)⟩); have HKL := Aside0.mk (Cf.keepF_len q L i); (try go_wp2); have HBd := Aside0.mk (below_drew1 HBr.out); have HId := Aside0.mk (show w2.heap.size ≤ wr.drew.heap.size from HI.out.2); have HLd := Aside0.mk (Kd.S_drew HLr.out); have HSd := Aside0.mk (Kd.S_drew HS.out); have HRd := Aside0.mk (Kd.C_below HRi.out (below_drew (Below.refl _ _))); clear HBr HS HRi HLr; obtain ⟨it, hit, _, hszt, _⟩ := info_parts info3; obtain ⟨hcutt, hAt, hCt⟩ := print_take_of (P := Try.prog) (Value.int .i64) 0 26 3 .i64 Try.underlying26 hit hszt Ai ci x (q : Int) hq0 (by omega) HCi.out; obtain ⟨ji, hji⟩ : ∃ j : Int, wrap64 ((q : Int) + 1) = j := ⟨_, rfl⟩; have hjiw : IntKind.i64.wrap ((q : Int) + 1) = ji := (i64_w _).trans hji; have HJ := Aside0.mk (show ji = ((q : Int) + 1) from by rw [← hji]; unfold wrap64; omega); obtain ⟨Ae, hcute, hAe, hCe⟩ := print_drop_of (P := Try.prog) (Value.int .i64) 0 26 3 .i64 Try.underlying26 hit hszt Ai ci x ji (by have := HJ.out; omega) (by have := HJ.out; omega) HCi.out; rw [Int.toNat_natCast] at hcutt hAt hCt; rw [show ji.toNat = q + 1 from by have := HJ.out; omega] at hcute hAe hCe; clear hit hszt hCt hCe; refine start_ (n := 14) (S := fun w' => True) (ds := []) (zM 14 0) (by kernel_rfl) rfl rfl trivial (fun hHeld => ?_); refine with_tabW spec_ReducedLaplacian.tab8 spec_ReducedLaplacian.bits8 (fun HT_ HW_ => ?_); generalize wr.drew = wd at HBd HSd HRd HId HLd hHeld ⊢; have HRt := Aside0.mk (Kd.C_of_reads (h1 := fun _ => rfl) (hAt _ (Kd.reads_of_C HRd.out))); have HRe := Aside0.mk (Kd.C_of_reads (h1 := fun _ => rfl) (hAe _ (Kd.reads_of_C HRd.out))); clear hAt hAe; refine zQ 0 31 (zM 14 1) ?_
     refine zQ 2 33 (zM 14 5) ?_
     refine zQ 3 34 (zM 14 13) ?_
     refine zQ 4 35 (zM 14 29) ?_
     refine zQ 6 37 (zM 14 93) ?_
     refine zQ 7 38 (zM 14 221) ?_
     refine zQ 8 39 (zM 14 477) ?_
     refine zQ 9 40 (zM 14 989) ?_
     refine one_ (i := 1) (N := some 32) (zM 14 991) rfl rfl (one_of HT_.out (by kernel_rfl)) (by decide) (fun K hK => ?_); refine Kd.R_lit_step (w0 := wd) (Kd.int .i64) wd.heap.size 3 ?hg (N := 32) ?hd (xs := ([] : List Int)) (inner := []) (ok := fun _ => True) (okp := fun _ => True) ?hr ?hp (fun _ hk => hk) trivial (Below.refl _ _) (Nat.le_refl _) (by simp) ?_; (case hd => rfl); (case hg => rfl); (case hr => exact zz13); (case hp => exact (Reps.none _ _)); intro vA wA hoA hbA hg_ hnew_; clear hg_ hnew_; have HOA := Aside0.mk hoA; have HBA := Aside0.mk hbA; clear hoA hbA; refine hK.out _ _ trivial (fun hHeld => ?_); clear hK K; refine norm_ (a' := ?_) ?_ ?_; rotate_left
     ·show Act.put _ (some 32) _ = _; exact zzS
     refine one_ (i := 5) (N := some 36) (zM 14 1023) rfl rfl (one_of HT_.out (by kernel_rfl)) (by decide) (fun K hK => ?_); refine Kd.R_append_rows_step (Kd.int .i64) (w0 := wd) wd.heap.size (by rfl) (.tmp 32) (.tmp 35) 26 3 (.int .i64 0) 8 rfl Try.underlying26 info3 rfl (by decide) (by omega) vA ([] : List Int) (x.take q) _ _ _ (fun _ => True) (fun _ => False) rfl rfl HOA.out (by have h_ := Kd.C_below HRt.out HBA.out; rw [List.length_take] at h_; exact h_) (fun _ _ h => h) (fun _ h => h.elim) (fun _ _ => trivial) HBA.out (below_size HBA.out) (by have := HXL.out; simp only [List.length_nil, List.length_take]; omega) ?_; intro vB wB hoB hbB hg_ hat_; clear hg_ hat_; have HOB := Aside0.mk hoB; have HBB := Aside0.mk hbB; clear hoB hbB HOA HBA; refine hK.out _ _ trivial (fun hHeld => ?_); clear hK K; refine norm_ (a' := ?_) ?_ ?_; rotate_left
     ·show Act.put _ (some 36) _ = _; exact zzS
     refine one_ (i := 10) (N := some 41) (zM 14 2047) rfl rfl (one_of HT_.out (by kernel_rfl)) (by decide) (fun K hK => ?_); refine Kd.R_append_rows_step (Kd.int .i64) (w0 := wd) wd.heap.size (by rfl) (.tmp 36) (.tmp 40) 26 3 (.int .i64 0) 8 rfl Try.underlying26 info3 rfl (by decide) (by omega) vB ([] ++ x.take q) (x.drop (q + 1)) _ _ _ (fun _ => True) (fun _ => False) rfl rfl HOB.out (by have h_ := Kd.C_below HRe.out HBB.out; rw [List.length_drop] at h_; exact h_) (fun _ _ h => h) (fun _ h => h.elim) (fun _ _ => trivial) HBB.out (below_size HBB.out) (by have := HXL.out; simp only [List.nil_append, List.length_drop, List.length_take]; omega) ?_; intro vC wC hoC hbC hg_ hat_; clear hg_ hat_; rw [List.nil_append, ← List.eraseIdx_eq_take_drop_succ] at hoC; obtain ⟨Ad, cd, ed⟩ := Kd.R_slice hoC; subst ed; have HD := Aside0.mk (Kd.R_mono (Kd.R_bound (Kd.R_lower hoC (Nat.le_refl wd.heap.size))) (ok' := fun k => wd.heap.size ≤ k) fun k hk => hk.2.1); have HBC := Aside0.mk hbC; clear hoC hbC HOB HBB; refine hK.out _ _ trivial (fun hHeld => ?_); clear hK K; refine norm_ (a' := ?_) ?_ ?_; rotate_left
     ·show Act.put _ (some 41) _ = _; exact zzS
     refine one_ (i := 11) (N := some 42) (zM 14 4095) rfl rfl (one_of HT_.out (by kernel_rfl)) (by decide) (fun K hK => ?_); refine value_ (w1 := ?_) (v := ?_) (by rfl) rfl ?_ ?_; rotate_left 2
     ·go_simp; constructor
      ·rfl
      ·rfl
     refine hK.out _ _ trivial (fun hHeld => ?_); clear hK K; refine norm_ (a' := ?_) ?_ ?_; rotate_left
     ·show Act.put _ (some 42) _ = _; exact zzS
     refine one_ (i := 12) (N := some 43) (zM 14 8191) rfl rfl (one_of HT_.out (by kernel_rfl)) (by decide) (fun K hK => ?_); refine Kd.S_append_step (Kd.slice 3 (Kd.int .i64)) (w0 := w) w.heap.size (by rfl) (.tmp 31) (.tmp 42) 50 26 (.slice none 0 0) 24 rfl Try.underlying50 info26 rfl (by decide) (by omega) u5 (Cf.keepF q L i) (x.eraseIdx q) [.slice Ad (x.eraseIdx q).length cd] (fun k => k < w1b.heap.size ∨ w2.heap.size ≤ k) (fun k => wd.heap.size ≤ k) rfl rfl (Kd.M_row (Kd.R_lower HD.out (below_size HBd.out))) ?aK (fun k hk => .inr (by have := HId.out; have := HBC.out.size; omega)) ?aO (below_step HBd.out HBC.out) (below_size (below_step HBd.out HBC.out)) ?aL ?_; (case aK => exact fun k hk => ⟨.inr (by have := HId.out; omega), fun e => by have := Kd.S_lt HSd.out k e.symm; omega⟩); (case aO => exact Kd.S_mono (Kd.S_below (Kd.S_bound HSd.out) HBC.out) fun k hk => ⟨hk.1, fun h => by have := hk.2.2.1; omega⟩); (case aL => have := HKL.out; have := HQ.out.2.1; have := HLT.out; omega); intro vE wE hoE hbE hgE hat_; have HOE := Aside0.mk hoE; have HBE := Aside0.mk hbE; have HLE := Aside0.mk (Kd.S_grown (Kd.S_below (Kd.S_bound HLd.out) HBC.out) hgE fun k hk e => by have := HSd.out.choose_spec.1 k e.symm; have := hk.1; omega); have HZE := Aside0.mk hgE.size; clear hoE hbE hgE hat_; refine hK.out _ _ trivial (fun hHeld => ?_); clear hK K; refine norm_ (a' := ?_) ?_ ?_; rotate_left
     ·show Act.put _ (some 43) _ = _; exact zzS
     refine zQ 13 5 (zM 14 16383) ?_
     refine done_ (done_of HT_.out (by kernel_rfl)) ?_; (try go_wp2); go_roundw
     case rel =>
      refine ⟨i + 1, by go_num, ⟨by have := HLT.out; omega, by have := HBC.out.size; have := HZE.out; have := HId.out; omega⟩, HBE, ⟨Kd.S_mono HLE.out fun k hk => hk.1⟩, ⟨?_⟩⟩
      ·have e : Cf.keepF q L (i + 1) = Cf.keepF q L i ++ [x.eraseIdx q] := by
        show (if i = q then _ else _) = _; rw [if_neg HQI.out, List.getD_eq_getElem?_getD, HXI.out]; rfl
       rw [e]; exact HOE.out
     case measure =>
      have := HLT.out; (simp [intOf]); omega
   ·cases H
def spec_GroupFactors.l0 : Nat → List Int → List Int → Int → Int → Option (List Int)
 | 0, _, _, _, _ => none
 | k + 1, x3, x12, x13, x14 => if x14 < x13 then (if 0 ≤ x14 then (if x14 < (x12.length : Int) then (if (rd x12 x14) > 1 then (if x3.length < 17592186044416 then (spec_GroupFactors.l0 k (x3 ++ [rd x12 x14]) x12 x13 (wrap64 (x14 + 1))) else (none)) else (spec_GroupFactors.l0 k x3 x12 x13 (wrap64 (x14 + 1)))) else (none)) else (none)) else (some x3)
def spec_GroupFactors.f (k : Nat) (a0_0 : Int) (l0_1 : List (S76)) : Option (List Int) := (spec_GraphOk.f k a0_0 l0_1).bind fun t102 => (if t102 = true then ((spec_ReducedLaplacian.f k a0_0 l0_1 0).bind fun t106 => ((spec_InvariantFactors.f k t106).bind fun t109 => (spec_GroupFactors.l0 k (([] : List Int)) t109 (t109.length : Int) 0))) else (some ([] : List Int)))
theorem spec_GroupFactors.mono_l : ∀ k, (∀ y0 y1 y2 y3, LeO (spec_GroupFactors.l0 k y0 y1 y2 y3) (spec_GroupFactors.l0 (k + 1) y0 y1 y2 y3))
 | 0 => fun _ _ _ _ r h => by simp [spec_GroupFactors.l0] at h
 | k + 1 => by
  have ih0 := spec_GroupFactors.mono_l k
  ·intro y0 y1 y2 y3
   unfold spec_GroupFactors.l0
   exact zm9
theorem spec_GroupFactors.mono : ∀ a0 a1 k, LeO (spec_GroupFactors.f k a0 a1) (spec_GroupFactors.f (k + 1) a0 a1) := by
 intro a0 a1 k; have ih0 := spec_GroupFactors.mono_l k; unfold spec_GroupFactors.f; exact zm9
set_option maxHeartbeats 8000000 in
set_option maxRecDepth 100000 in
theorem spec_GroupFactors.calls (k : Nat) (a0_0 : Int) (A0_1 : Option Addr) (c0_1 : Nat) (l0_1 : List (S76)) (r : List Int) (w : World) (hr0_1 : Kd.C k76 w A0_1 l0_1.length l0_1) (hc0_1 : l0_1.length ≤ c0_1) (h : spec_GroupFactors.f k a0_0 l0_1 = some r) :
  Calls Try.prog 8 #[.agg #[.int .i64 a0_0, .slice A0_1 l0_1.length c0_1]] w fun e w' => ∃ v0_ : Value, e = .returned (v0_) ∧ Kd.R (Kd.int .i64) 3 w' w.heap.size (fun _ => True) v0_ r ∧ Below w.heap.size w w' := by
 have hu30 := Try.underlying30; have HR0_1 := Aside0.mk hr0_1; have HC0_1 := Aside0.mk hc0_1; clear hr0_1 hc0_1; have HB := Aside0.mk (Below.refl w.heap.size w); have H : ((spec_GraphOk.f k a0_0 l0_1).bind fun t102 => (if t102 = true then ((spec_ReducedLaplacian.f k a0_0 l0_1 0).bind fun t106 => ((spec_InvariantFactors.f k t106).bind fun t109 => (spec_GroupFactors.l0 k (([] : List Int)) t109 (t109.length : Int) 0))) else (some ([] : List Int)))) = some r := h; clear h; replace H := Option.bind_eq_some_iff.mp H; obtain ⟨t102, A20, H⟩ := H; (try dsimp only at H); have A2 := Aside0.mk A20; clear A20; by_cases c3 : t102 = true; rotate_left
 ·replace c3 := Bool.eq_false_iff.mpr c3; subst c3; rw [if_neg (show ¬ (false = true) by decide)] at H; obtain rfl := Option.some.inj H; go_enter Try.func8, Try.ntmps8; (go_wp2_with (first | ((with_reducible refine gate_dst (N := 1) rfl ?_); refine box_event ?hg (N := 1) ?hd (cs := #[.int .i64 a0_0, .slice A0_1 l0_1.length c0_1]) (t := 30) ?hr ?_; (case hd => rfl); (case hg => rfl); (case hr => exact zz13); intro gb101 hg w22 hbox hb; have n_ := zA4 (below_step zz1 hb) hbox (zz12 : w.heap.size ≤ gb101) (zz12 : w.heap.size ≤ gb101); clear HB; obtain ⟨HB, BK101, GW101, GE101⟩ := n_; clear hb hbox hg; have hcz23_0 := zC20 BK101; have hcz23_1 := zC21 BK101; have hfz23_0 := blk_frozen BK101.out 0; have hfz23_1 := blk_frozen BK101.out 1) | ((with_reducible refine gate_callee (f := 35) rfl ?_); refine goesL_ (some 7) rfl rfl Try.func35 (by kernel_rfl) rfl #[.agg #[.int .i64 a0_0, .slice A0_1 l0_1.length c0_1]] rfl zz3 ?_; (with_reducible refine (spec_GraphOk.calls k a0_0 _ _ l0_1 false _ ?side1 ?side2 A2.out).mono ?_); (case side1 => exact zz7); (case side2 => exact HC0_1.out); rintro e w24 ⟨rfl, hb⟩; refine ⟨_, rfl, ?_⟩; have n_ := zA2 (blk_below (g := gb101) (o := .cells #[.int .i64 a0_0, .slice A0_1 l0_1.length c0_1] 30 (0, 0)) zz2 hb) (below_step zz0 hb); clear BK101 HB; obtain ⟨BK101, HB⟩ := n_; clear hb))); go_ret; exact ⟨_, zz8, zz24, zz0⟩
 subst c3; rw [if_pos rfl] at H; obtain ⟨y103, hy_⟩ : ∃ y_ : List Int, y_ = (([] : List Int)) := ⟨_, rfl⟩; (replace H : ((spec_ReducedLaplacian.f k a0_0 l0_1 0).bind fun t106 => ((spec_InvariantFactors.f k t106).bind fun t109 => (spec_GroupFactors.l0 k y103 t109 (t109.length : Int) 0))) = some r := zzY); have Ny103 := Aside0.mk hy_; clear hy_; replace H := Option.bind_eq_some_iff.mp H; obtain ⟨t106, A40, H⟩ := H; (try dsimp only at H); have A4 := Aside0.mk A40; clear A40; replace H := Option.bind_eq_some_iff.mp H; obtain ⟨t109, A50, H⟩ := H; (try dsimp only at H); have A5 := Aside0.mk A50; clear A50; have H' := Aside0.mk H; clear H; go_enter Try.func8, Try.ntmps8; (go_wp2_with (first | ((with_reducible refine gate_dst (N := 1) rfl ?_); refine box_event ?hg (N := 1) ?hd (cs := #[.int .i64 a0_0, .slice A0_1 l0_1.length c0_1]) (t := 30) ?hr ?_; (case hd => rfl); (case hg => rfl); (case hr => exact zz13); intro gb101 hg w6 hbox hb; have n_ := zA4 (below_step zz1 hb) hbox (zz12 : w.heap.size ≤ gb101) (zz12 : w.heap.size ≤ gb101); clear HB; obtain ⟨HB, BK101, GW101, GE101⟩ := n_; clear hb hbox hg; have hcz7_0 := zC20 BK101; have hcz7_1 := zC21 BK101; have hfz7_0 := blk_frozen BK101.out 0; have hfz7_1 := blk_frozen BK101.out 1) | ((with_reducible refine gate_callee (f := 35) rfl ?_); refine goesL_ (some 7) rfl rfl Try.func35 (by kernel_rfl) rfl #[.agg #[.int .i64 a0_0, .slice A0_1 l0_1.length c0_1]] rfl zz3 ?_; (with_reducible refine (spec_GraphOk.calls k a0_0 _ _ l0_1 true _ ?side1 ?side2 A2.out).mono ?_); (case side1 => exact zz7); (case side2 => exact HC0_1.out); rintro e w8 ⟨rfl, hb⟩; refine ⟨_, rfl, ?_⟩; have n_ := zA2 (blk_below (g := gb101) (o := .cells #[.int .i64 a0_0, .slice A0_1 l0_1.length c0_1] 30 (0, 0)) zz2 hb) (below_step zz0 hb); clear BK101 HB; obtain ⟨BK101, HB⟩ := n_; clear hb) | ((with_reducible refine gate_dst (N := 9) rfl ?_); refine Kd.R_lit (Kd.int .i64) _ 3 ?hg (N := 9) ?hd (xs := ([] : List Int)) (inner := []) (ok := fun _ => True) (okp := fun _ => True) ?hr ?hp (fun _ hk => hk) trivial (Below.refl _ _) (Nat.le_refl _) (by simp) ?_; (case hd => rfl); (case hg => rfl); (case hr => exact zz13); (case hp => exact (Reps.none _ _)); intro v104 w9 ho10 hb hg_ hnew_; clear hg_ hnew_; (first | rw [← Ny103.out] at ho10 | (simp only [Int.reduceToNat] at ho10; rw [← Ny103.out] at ho10)); have n_ := zA3 (Kd.R_lower ho10 (below_size zz0)) (blk_below (g := gb101) (o := .cells #[.int .i64 a0_0, .slice A0_1 l0_1.length c0_1] 30 (0, 0)) zz2 hb) (below_step zz0 hb); clear BK101 HB; obtain ⟨HO105, BK101, HB⟩ := n_; clear hb ho10; have hcz11_0 := zC20 BK101; have hcz11_1 := zC21 BK101; have hfz11_0 := blk_frozen BK101.out 0; have hfz11_1 := blk_frozen BK101.out 1) | ((with_reducible refine gate_callee (f := 37) rfl ?_); refine goesL_ (some 11) rfl rfl Try.func37 (by kernel_rfl) rfl #[.agg #[.int .i64 a0_0, .slice A0_1 l0_1.length c0_1], .int .i64 0] rfl zz3 ?_; (with_reducible refine (spec_ReducedLaplacian.calls k a0_0 _ _ l0_1 0 t106 _ ?side1 ?side2 A4.out).mono ?_); (case side1 => exact zz7); (case side2 => exact HC0_1.out); rintro e w12 ⟨v107, rfl, ho0, hb⟩; refine ⟨_, rfl, ?_⟩; have n_ := zA4 (Kd.R_below (by (with_reducible repeat (first | apply Kd.R_alloc | apply Kd.R_drewN | apply Kd.R_drew)); exact HO105.out) hb) (Kd.S_lower (Kd.S_new' ho0 (Kd.R_lt (by (with_reducible repeat (first | apply Kd.R_alloc | apply Kd.R_drewN | apply Kd.R_drew)); exact HO105.out))) (below_size zz0)) (blk_below (g := gb101) (o := .cells #[.int .i64 a0_0, .slice A0_1 l0_1.length c0_1] 30 (0, 0)) zz2 hb) (below_step zz0 hb); clear HO105 BK101 HB; obtain ⟨HO105, HO108, BK101, HB⟩ := n_; clear ho0 hb; obtain ⟨Ao13, co13, eo13⟩ := Kd.S_slice HO108.out; subst eo13) | ((with_reducible refine gate_callee (f := 36) rfl ?_); refine goesL_ (some 12) rfl rfl Try.func36 (by kernel_rfl) rfl #[.slice Ao13 t106.length co13] rfl zz3 ?_; (with_reducible refine (spec_InvariantFactors.calls k _ _ t106 t109 _ ?side1 ?side2 A5.out).mono ?_); (case side1 => repeat (first | exact (Kd.S_reads' HO108.out).2.2 | (with_reducible refine Kd.C_alloc ?_ _) | (with_reducible refine Kd.C_drewN ?_ _) | (with_reducible refine Kd.C_drew ?_))); (case side2 => exact (Kd.S_reads' HO108.out).2.1); rintro e w14 ⟨v110, rfl, ho0, hb⟩; refine ⟨_, rfl, ?_⟩; have n_ := zA5 (Kd.R_elder' (by (with_reducible repeat (first | apply Kd.R_alloc | apply Kd.R_drewN | apply Kd.R_drew)); exact HO105.out) (Kd.R_base ho0) hb) (Kd.S_elder' (by (with_reducible repeat (first | apply Kd.S_alloc | apply Kd.S_drewN | apply Kd.S_drew)); exact HO108.out) (Kd.R_base ho0) hb) (Kd.R_lower (Kd.R_new' ho0 (Kd.R_lt (by (with_reducible repeat (first | apply Kd.R_alloc | apply Kd.R_drewN | apply Kd.R_drew)); exact HO105.out))) (below_size zz0)) (blk_below (g := gb101) (o := .cells #[.int .i64 a0_0, .slice A0_1 l0_1.length c0_1] 30 (0, 0)) zz2 hb) (below_step zz0 hb); clear HO105 HO108 BK101 HB; obtain ⟨HO105, HO108, HO111, BK101, HB⟩ := n_; clear ho0 hb; obtain ⟨Ao15, co15, eo15⟩ := Kd.R_slice HO111.out; subst eo15))); (go_loopg [3, 14] k (fun kq v3 v14 w' => ∃ (x3_1 : List Int) (x14_1 : Int), v14 = .int .i64 x14_1 ∧ Aside0 (spec_GroupFactors.l0 kq x3_1 t109 (t109.length : Int) x14_1 = some r) ∧ Aside0 (kq ≤ k) ∧ Aside0 (Kd.R (Kd.int .i64) 3 w' w.heap.size (fun k_ => some k_ ≠ ((.slice Ao15 t109.length co15) : Value).ownBlock) v3 x3_1) ∧ Aside0 (Kd.R (Kd.int .i64) 3 w' w.heap.size (fun k_ => some k_ ≠ (v3 : Value).ownBlock) (.slice Ao15 t109.length co15) t109) ∧ Aside0 (w'.heap[gb101]? = some (.cells #[.int .i64 a0_0, (.slice A0_1 l0_1.length c0_1)] 30 (0, 0))) ∧ Aside0 (Below w.heap.size w w'))); case atStart => exact ⟨(y103), (0), zz5, H', ⟨Nat.le_refl _⟩, ⟨by (with_reducible repeat (first | apply Kd.R_alloc | apply Kd.R_drewN | apply Kd.R_drew)); exact Kd.R_mono HO105.out (fun _ hk => hk.2)⟩, ⟨by (with_reducible repeat (first | apply Kd.R_alloc | apply Kd.R_drewN | apply Kd.R_drew)); exact Kd.R_mono HO111.out (fun _ hk => hk.2)⟩, ⟨zz2⟩, ⟨zz0⟩⟩
 case round =>
  clear H'; (try clear p2); (try clear c3); (try clear c8); (try clear hcz11_0); (try clear hcz11_1); (try clear hcz7_0); (try clear hcz7_1); (try clear hfz11_0); (try clear hfz11_1); (try clear hfz7_0); (try clear hfz7_1); obtain ⟨x3_1, x14_1, rfl, HA, HK1, HO_3, HO_12, BK101, HB⟩ := hrel
  cases gk with
  | zero => exact absurd HA.out (by simp [spec_GroupFactors.l0])
  | succ k1 =>
   have H := HA.out; clear HA; simp only [spec_GroupFactors.l0] at H; by_cases c16 : x14_1 < (t109.length : Int); rotate_left
   ·rw [if_neg c16] at H; have c16b0 := decide_eq_false c16; clear c16; obtain rfl := Option.some.inj H; go_wp2; go_ret; exact ⟨_, zz8, by (with_reducible repeat (first | apply Kd.R_alloc | apply Kd.R_drewN | apply Kd.R_drew)); exact Kd.R_mono HO_3.out (fun _ hk => trivial), zz0⟩
   rw [if_pos c16] at H; have c16b0 := decide_eq_true c16; clear c16; by_cases c17 : 0 ≤ x14_1; rotate_left
   ·rw [if_neg c17] at H; exact absurd H (by simp)
   rw [if_pos c17] at H; have c17b0 := decide_eq_true c17; clear c17; by_cases c18 : x14_1 < (t109.length : Int); rotate_left
   ·rw [if_neg c18] at H; exact absurd H (by simp)
   rw [if_pos c18] at H; have c18b0 := decide_eq_true c18; clear c18; by_cases c19 : (rd t109 x14_1) > 1; rotate_left
   ·rw [if_neg c19] at H; have c19b0 : decide (1 < (rd t109 x14_1)) = false := decide_eq_false c19; clear c19; have H' := Aside0.mk H; clear H; have p112 : 0 ≤ (x14_1 : Int) := of_decide_eq_true zz4; have q112 : x14_1 < (t109.length : Int) := of_decide_eq_true zz4; obtain ⟨ad112, e112, hx112_0⟩ := Kd.at_int (Kd.R_reads' HO_12.out).2.2 x14_1 p112 q112; cases e112; replace p112 := eq_true p112; replace q112 := eq_true q112; go_wp2; go_roundg k1; (case measure => have := HK1.out; omega); case rel => exact ⟨(x3_1), (wrap64 (x14_1 + 1)), zz5, H', ⟨zz36⟩, ⟨zz9⟩, ⟨by (with_reducible repeat (first | apply Kd.R_alloc | apply Kd.R_drewN | apply Kd.R_drew)); exact HO_12.out⟩, ⟨zz2⟩, ⟨zz0⟩⟩
   rw [if_pos c19] at H; have c19b0 : decide (1 < (rd t109 x14_1)) = true := decide_eq_true c19; clear c19; by_cases c20 : x3_1.length < 17592186044416; rotate_left
   ·rw [if_neg c20] at H; exact absurd H (by simp)
   rw [if_pos c20] at H; have LMc20 := Aside0.mk c20; clear c20; obtain ⟨y113, hy_⟩ : ∃ y_ : List Int, y_ = (x3_1 ++ [rd t109 x14_1]) := ⟨_, rfl⟩; (replace H : (spec_GroupFactors.l0 k1 y113 t109 (t109.length : Int) (wrap64 (x14_1 + 1))) = some r := zzY); have Ny113 := Aside0.mk hy_; clear hy_; have H' := Aside0.mk H; clear H; have p112 : 0 ≤ (x14_1 : Int) := of_decide_eq_true zz4; have q112 : x14_1 < (t109.length : Int) := of_decide_eq_true zz4; obtain ⟨ad112, e112, hx112_0⟩ := Kd.at_int (Kd.R_reads' HO_12.out).2.2 x14_1 p112 q112; cases e112; replace p112 := eq_true p112; replace q112 := eq_true q112; (go_wp2_with (first | ((with_reducible refine gate_builtin (b := .append) (xs := #[.tmp 20, .tmp 22]) rfl ?_); at_builtin; refine Kd.R_append (Kd.int .i64) (w0 := w) w.heap.size rfl (.tmp 20) (.tmp 22) 26 3 (.int .i64 0) 8 rfl Try.underlying26 info3 rfl (by decide) (by omega) u3 x3_1 (rd t109 x14_1) [.int .i64 (rd t109 x14_1)] (fun k_ => some k_ ≠ (.slice (some ad112) t109.length co15 : Value).ownBlock) (fun _ => False) rfl rfl ?aP (fun _ hk => hk.elim) ?aF ?aO ?aB ?aS ?aL ?_; (case aP => exact rfl); (case aB => exact zz0); (case aF => exact (fun k_ hk => Kd.fresh' (Kd.R_lt (by (with_reducible repeat (first | apply Kd.R_alloc | apply Kd.R_drewN | apply Kd.R_drew)); exact HO_12.out)) k_ hk)); (case aO => exact zz9); (case aS => exact (below_size zz0)); (case aL => have := LMc20.out; omega); intro v114 w21 ho hb hg hat; rw [← Ny113.out] at ho; have n_ := zA4 (Kd.R_after (ok := (fun _ => True)) (by (with_reducible repeat (first | apply Kd.R_alloc | apply Kd.R_drewN | apply Kd.R_drew)); exact Kd.R_mono HO_12.out (fun _ hk => ⟨trivial, hk⟩)) hg hat) (blk_grown (g := gb101) (o := .cells #[.int .i64 a0_0, .slice A0_1 l0_1.length c0_1] 30 (0, 0)) zz2 hg (Kd.R_ne HO_3.out BK101.out (by decide))) hb ho; clear HO_12 BK101 HB HO_3; obtain ⟨HO_12, BK101, HB, HO115⟩ := n_; clear ho hb hg hat))); go_roundg k1; (case measure => have := HK1.out; omega); case rel => exact ⟨(y113), (wrap64 (x14_1 + 1)), zz5, H', ⟨zz36⟩, ⟨by (with_reducible repeat (first | apply Kd.R_alloc | apply Kd.R_drewN | apply Kd.R_drew)); exact HO115.out⟩, ⟨by (with_reducible repeat (first | apply Kd.R_alloc | apply Kd.R_drewN | apply Kd.R_drew)); exact Kd.R_mono HO_12.out (fun _ hk => hk.2)⟩, ⟨zz2⟩, ⟨zz0⟩⟩
def laws_toEdge.f (a0_0 : Int) (a0_1 : Int) : Option (Int × Int) := some (a0_0, a0_1)
set_option maxHeartbeats 8000000 in
set_option maxRecDepth 100000 in
theorem laws_toEdge.calls (a0_0 : Int) (a0_1 : Int) (r1 : Int) (r2 : Int) (w : World) (h : laws_toEdge.f a0_0 a0_1 = some (r1, r2)) :
  Calls Try.prog 72 #[.agg #[.int .i64 a0_0, .int .i64 a0_1]] w fun e w' => e = .returned (.agg #[.int .i64 r1, .int .i64 r2]) ∧ Below w.heap.size w w' := by
 have hu82 := Try.underlying82; have hu76 := Try.underlying76; have HB := Aside0.mk (Below.refl w.heap.size w); have H : (some (a0_0, a0_1)) = some (r1, r2) := h; clear h; simp only [Option.some.injEq, Prod.mk.injEq] at H; obtain ⟨rfl, rfl⟩ := H; go_enter Try.func72, Try.ntmps72; (go_wp2_with (first | ((with_reducible refine gate_dst (N := 1) rfl ?_); refine box_event ?hg (N := 1) ?hd (cs := #[.int .i64 a0_0, .int .i64 a0_1]) (t := 82) ?hr ?_; (case hd => rfl); (case hg => rfl); (case hr => exact zz13); intro gb101 hg w2 hbox hb; have n_ := zA4 (below_step zz1 hb) hbox (zz12 : w.heap.size ≤ gb101) (zz12 : w.heap.size ≤ gb101); clear HB; obtain ⟨HB, BK101, GW101, GE101⟩ := n_; clear hb hbox hg) | ((with_reducible refine gate_dst (N := 2) rfl ?_); refine box_event ?hg (N := 2) ?hd (cs := #[.int .i64 0, .int .i64 0]) (t := 76) ?hr ?_; (case hd => rfl); (case hg => rfl); (case hr => exact zz13); intro gb102 hg w3 hbox hb; have n_ := zA7 (blk_below (g := gb101) (o := .cells #[.int .i64 a0_0, .int .i64 a0_1] 82 (0, 0)) zz2 hb) (below_step zz0 hb) hbox (zz14 : w.heap.size ≤ gb102) (zz14 : w.heap.size ≤ gb102) (by rw [hg]; exact Nat.ne_of_lt (blk_lt (g := gb101) (o := .cells #[.int .i64 a0_0, .int .i64 a0_1] 82 (0, 0)) zz2) : gb101 ≠ gb102) (by rw [hg]; exact Nat.ne_of_gt (blk_lt (g := gb101) (o := .cells #[.int .i64 a0_0, .int .i64 a0_1] 82 (0, 0)) zz2) : gb102 ≠ gb101); clear BK101 HB; obtain ⟨BK101, HB, BK102, GW102, GE102, NB101_102, NB102_101⟩ := n_; clear hb hbox hg) | ((with_reducible refine gate_dst (N := 3) rfl ?_); refine box_event ?hg (N := 3) ?hd (cs := #[.int .i64 0, .int .i64 0]) (t := 76) ?hr ?_; (case hd => rfl); (case hg => rfl); (case hr => exact zz13); intro gb103 hg w4 hbox hb; have n_ := zA10 (blk_below (g := gb101) (o := .cells #[.int .i64 a0_0, .int .i64 a0_1] 82 (0, 0)) zz2 hb) (blk_below (g := gb102) (o := .cells #[.int .i64 0, .int .i64 0] 76 (0, 0)) zz25 hb) (below_step zz21 hb) hbox (by rw [hg]; exact (below_size zz21) : w.heap.size ≤ gb103) (by rw [hg]; exact (below_size zz21) : w.heap.size ≤ gb103) (by rw [hg]; exact Nat.ne_of_lt (blk_lt (g := gb101) (o := .cells #[.int .i64 a0_0, .int .i64 a0_1] 82 (0, 0)) zz2) : gb101 ≠ gb103) (by rw [hg]; exact Nat.ne_of_gt (blk_lt (g := gb101) (o := .cells #[.int .i64 a0_0, .int .i64 a0_1] 82 (0, 0)) zz2) : gb103 ≠ gb101) (by rw [hg]; exact Nat.ne_of_lt (blk_lt (g := gb102) (o := .cells #[.int .i64 0, .int .i64 0] 76 (0, 0)) zz25) : gb102 ≠ gb103) (by rw [hg]; exact Nat.ne_of_gt (blk_lt (g := gb102) (o := .cells #[.int .i64 0, .int .i64 0] 76 (0, 0)) zz25) : gb103 ≠ gb102); clear BK101 BK102 HB; obtain ⟨BK101, BK102, HB, BK103, GW103, GE103, NB101_103, NB103_101, NB102_103, NB103_102⟩ := n_; clear hb hbox hg; have hnb5 := NB101_102.out; have hnc5 := NB102_101.out; have hnb6 := NB101_103.out; have hnc6 := NB103_101.out; have hcz7_0 := zC20 BK101; have hcz7_1 := zC21 BK101; have hfz7_0 := blk_frozen BK101.out 0; have hfz7_1 := blk_frozen BK101.out 1; have hnb8 := NB103_102.out; have hnc8 := NB102_103.out; have hcz9_0 := zC20 BK103; have hcz9_1 := zC21 BK103; have hfz9_0 := blk_frozen BK103.out 0; have hfz9_1 := blk_frozen BK103.out 1; have hcz10_0 := zC20 BK102; have hcz10_1 := zC21 BK102; have hfz10_0 := blk_frozen BK102.out 0; have hfz10_1 := blk_frozen BK102.out 1))); refine bodyPost_ret (results_cell_row rfl _ _ gb102 76 #[.int .i64 a0_0, .int .i64 a0_1] (0, 0) _ rfl (by (with_reducible repeat (first | refine blk_drewN ?_ _ | refine blk_drew ?_ | refine blk_alloc ?_ _)); refine blk_put (cs := #[.int .i64 a0_0, .int .i64 0]) ?_ 1 _ rfl; (with_reducible repeat (first | refine blk_drewN ?_ _ | refine blk_drew ?_ | refine blk_alloc ?_ _)); refine blk_put (cs := #[.int .i64 0, .int .i64 0]) ?_ 0 _ rfl; (with_reducible repeat (first | refine blk_drewN ?_ _ | refine blk_drew ?_ | refine blk_alloc ?_ _)); refine blk_far ?_ NB102_103.out _; (with_reducible repeat (first | refine blk_drewN ?_ _ | refine blk_drew ?_ | refine blk_alloc ?_ _)); refine blk_far ?_ NB102_103.out _; (with_reducible repeat (first | refine blk_drewN ?_ _ | refine blk_drew ?_ | refine blk_alloc ?_ _)); exact BK102.out) Try.underlying76 rfl (by kernel_rfl)) rfl ?_; exact ⟨zz8, by repeat (first | (with_reducible first | exact HB.out | apply below_alloc | apply pw_below_drewN | apply below_drew1 | refine below_set ?_ GE101.out | refine below_set ?_ GE102.out | refine below_set ?_ GE103.out) | exact HB.out)⟩
def laws_toEdgeS.l0 : Nat → List (S82) → List (S76) → Int → Option ((List (S76)))
 | 0, _, _, _ => none
 | k + 1, x0, x3, x4 => if x4 < (x0.length : Int) then (if 0 ≤ x4 then ((laws_toEdge.f ((rd_T82 x0 x4).f0) ((rd_T82 x0 x4).f1)).bind fun bt105 => (if x4 < (x3.length : Int) then (laws_toEdgeS.l0 k x0 (x3.set (x4 : Int).toNat (⟨bt105.1, bt105.2⟩ : S76)) (wrap64 (x4 + 1))) else (none))) else (none)) else (some x3)
def laws_toEdgeS.f (k : Nat) (l0 : List (S82)) : Option ((List (S76))) := if 0 ≤ (l0.length : Int) then (if ((l0.length : Int) : Int).toNat ≤ 17592186044416 then (laws_toEdgeS.l0 k l0 (List.replicate ((l0.length : Int) : Int).toNat z76) 0) else (none)) else (none)
theorem laws_toEdgeS.mono_l : ∀ k, (∀ y0 y1 y2, LeO (laws_toEdgeS.l0 k y0 y1 y2) (laws_toEdgeS.l0 (k + 1) y0 y1 y2))
 | 0 => fun _ _ _ r h => by simp [laws_toEdgeS.l0] at h
 | k + 1 => by
  have ih0 := laws_toEdgeS.mono_l k
  ·intro y0 y1 y2
   unfold laws_toEdgeS.l0
   exact zm0
theorem laws_toEdgeS.mono : ∀ a0 k, LeO (laws_toEdgeS.f k a0) (laws_toEdgeS.f (k + 1) a0) := by
 intro a0 k; have ih0 := laws_toEdgeS.mono_l k; unfold laws_toEdgeS.f; exact zm0
set_option maxHeartbeats 8000000 in
set_option maxRecDepth 100000 in
theorem laws_toEdgeS.calls (k : Nat) (A0 : Option Addr) (c0 : Nat) (l0 : List (S82)) (r : List (S76)) (w : World) (hr0 : Kd.C k82 w A0 l0.length l0) (hc0 : l0.length ≤ c0) (h : laws_toEdgeS.f k l0 = some r) :
  Calls Try.prog 38 #[.slice A0 l0.length c0] w fun e w' => ∃ v0_ : Value, e = .returned (v0_) ∧ Kd.R k76 76 w' w.heap.size (fun _ => True) v0_ r ∧ Below w.heap.size w w' := by
 have hu82 := Try.underlying82; have hu76 := Try.underlying76; have HR0 := Aside0.mk hr0; have HC0 := Aside0.mk hc0; clear hr0 hc0; have HB := Aside0.mk (Below.refl w.heap.size w); have H : (if 0 ≤ (l0.length : Int) then (if ((l0.length : Int) : Int).toNat ≤ 17592186044416 then (laws_toEdgeS.l0 k l0 (List.replicate ((l0.length : Int) : Int).toNat z76) 0) else (none)) else (none)) = some r := h; clear h; by_cases c2 : 0 ≤ (l0.length : Int); rotate_left
 ·rw [if_neg c2] at H; exact absurd H (by simp)
 rw [if_pos c2] at H; have c2b0 := eq_true c2; have c2b1 : decide (0 ≤ (l0.length : Int)) = true := decide_eq_true c2; clear c2; by_cases c3 : ((l0.length : Int) : Int).toNat ≤ 17592186044416; rotate_left
 ·rw [if_neg c3] at H; exact absurd H (by simp)
 rw [if_pos c3] at H; have c3b0 := eq_true c3; have c3b1 : decide (((l0.length : Int) : Int).toNat ≤ 17592186044416) = true := decide_eq_true c3; clear c3; obtain ⟨y101, hy_⟩ : ∃ y_ : List (S76), y_ = (List.replicate ((l0.length : Int) : Int).toNat z76) := ⟨_, rfl⟩; (replace H : (laws_toEdgeS.l0 k l0 y101 0) = some r := zzY); have Ny101 := Aside0.mk hy_; clear hy_; have H' := Aside0.mk H; clear H; go_enter Try.func38, Try.ntmps38; (go_wp2_with (first | ((with_reducible refine gate_dst (N := 7) rfl ?_); refine Kd.R_make k76 _ 76 rfl (N := 7) rfl 28 _ _ rfl (l0.length : Int) rfl rfl Try.underlying28 (.agg #[(.int .i64 0), (.int .i64 0)]) 16 info76 rfl (by decide) (by omega) z76 (ok := fun _ => True) (okp := fun _ => True) (k76_mkM _ _ _ z76 ) (fun _ hk => hk) trivial (of_decide_eq_true zz4) (Nat.le_trans (Nat.mul_le_mul_right _ (of_decide_eq_true zz4 : (l0.length : Int).toNat ≤ 17592186044416)) (by omega)) (Below.refl _ _) (Nat.le_refl _) ?_; intro v102 w4 ho5 hb hg_ hnew_; clear hg_ hnew_; (first | rw [← Ny101.out] at ho5 | (simp only [Int.reduceToNat] at ho5; rw [← Ny101.out] at ho5)); have n_ := zA2 (Kd.R_lower ho5 (below_size zz1)) (below_step zz1 hb); clear HB; obtain ⟨HO103, HB⟩ := n_; clear hb ho5))); (go_loopg [4] k (fun kq v4 w' => ∃ (x3_1 : List (S76)) (x4_1 : Int), v4 = .int .i64 x4_1 ∧ Aside0 (laws_toEdgeS.l0 kq l0 x3_1 x4_1 = some r) ∧ Aside0 (kq ≤ k) ∧ Aside0 (Kd.R k76 76 w' w.heap.size (fun _ => True) v102 x3_1) ∧ Aside0 (Below w.heap.size w w'))); case atStart => exact ⟨(y101), (0), zz5, H', ⟨Nat.le_refl _⟩, ⟨by (with_reducible repeat (first | apply Kd.R_alloc | apply Kd.R_drewN | apply Kd.R_drew)); exact HO103.out⟩, ⟨zz1⟩⟩
 case round =>
  clear H'; (try clear c2); (try clear c2b0); (try clear c2b1); (try clear p2); (try clear c3); (try clear c3b0); (try clear c3b1); obtain ⟨x3_1, x4_1, rfl, HA, HK1, HO_3, HB⟩ := hrel
  cases gk with
  | zero => exact absurd HA.out (by simp [laws_toEdgeS.l0])
  | succ k1 =>
   have H := HA.out; clear HA; simp only [laws_toEdgeS.l0] at H; by_cases c6 : x4_1 < (l0.length : Int); rotate_left
   ·rw [if_neg c6] at H; have c6b0 := decide_eq_false c6; clear c6; obtain rfl := Option.some.inj H; go_wp2; go_ret; exact ⟨_, zz8, zz9, zz1⟩
   rw [if_pos c6] at H; have c6b0 := decide_eq_true c6; clear c6; by_cases c7 : 0 ≤ x4_1; rotate_left
   ·rw [if_neg c7] at H; exact absurd H (by simp)
   rw [if_pos c7] at H; have c7b0 := decide_eq_true c7; clear c7; replace H := Option.bind_eq_some_iff.mp H; obtain ⟨⟨t105, t106⟩, A80, H⟩ := H; dsimp only at H; have A8 := Aside0.mk A80; clear A80; by_cases c9 : x4_1 < (x3_1.length : Int); rotate_left
   ·rw [if_neg c9] at H; exact absurd H (by simp)
   rw [if_pos c9] at H; have c9b0 := decide_eq_true c9; clear c9; obtain ⟨y107, hy_⟩ : ∃ y_ : List (S76), y_ = (x3_1.set (x4_1 : Int).toNat (⟨t105, t106⟩ : S76)) := ⟨_, rfl⟩; (replace H : (laws_toEdgeS.l0 k1 l0 y107 (wrap64 (x4_1 + 1))) = some r := zzY); have Ny107 := Aside0.mk hy_; clear hy_; have H' := Aside0.mk H; clear H; have p104 : 0 ≤ (x4_1 : Int) := of_decide_eq_true zz4; have q104 : x4_1 < (l0.length : Int) := of_decide_eq_true zz4; obtain ⟨ad104, e104, hx104_0, hx104_1⟩ := at_T82 HR0.out x4_1 p104 q104; cases e104; replace hx104_0 := (HB.out.cell (World.block_lt_of_cell? w _ hx104_0)).trans hx104_0; replace hx104_1 := (HB.out.cell (World.block_lt_of_cell? w _ hx104_1)).trans hx104_1; replace p104 := eq_true p104; replace q104 := eq_true q104; (go_wp2_with (first | ((with_reducible refine gate_callee (f := 72) rfl ?_); refine goesL_ (some 20) rfl rfl Try.func72 (by kernel_rfl) rfl #[.agg #[.int .i64 ((rd_T82 l0 x4_1).f0), .int .i64 ((rd_T82 l0 x4_1).f1)]] rfl zz3 ?_; (with_reducible refine (laws_toEdge.calls ((rd_T82 l0 x4_1).f0) ((rd_T82 l0 x4_1).f1) t105 t106 _ A8.out).mono ?_); rintro e w11 ⟨rfl, hb⟩; refine ⟨_, rfl, ?_⟩; have n_ := zA2 (Kd.R_below zz9 hb) (below_step zz1 hb); clear HO_3 HB; obtain ⟨HO_3, HB⟩ := n_; clear hb; have p10 : 0 ≤ (x4_1 : Int) := of_decide_eq_true zz4; have q10 : (x4_1 : Int) < ((x3_1.length : Int) : Int) := of_decide_eq_true zz4; obtain ⟨go10, co10, eo10, gb10, gl10, cl10, HG10⟩ := Kd.R_form HO_3.out (by omega); (first | cases eo10 | (injection eo10 with ea_ en_ ec_; (first | subst ea_ | (injection ea_ with ea_; subst ea_)); subst ec_; clear en_)); have GB10 := Aside0.mk gb10; have GG10 := Aside0.mk HG10; clear gb10 gl10 HG10; obtain ⟨ce10, hcl10, hM10, hcc10, hfr10⟩ := Kd.R_elem HO_3.out z76 (x4_1 : Int) p10 q10; obtain rfl := k76_openM hM10; have hx10_0 : w11.cell? ⟨go10, (x4_1 : Int).toNat * 2, none⟩ = some (.int .i64 ((rd_T76 x3_1 x4_1).f0)) := hcc10 0 _ rfl; have hx10_1 : w11.cell? ⟨go10, (x4_1 : Int).toNat * 2 + 1, none⟩ = some (.int .i64 ((rd_T76 x3_1 x4_1).f1)) := hcc10 1 _ rfl; have hf10_0 : w11.frozen? ⟨go10, (x4_1 : Int).toNat * 2, none⟩ = false := hfr10 0; have hf10_1 : w11.frozen? ⟨go10, (x4_1 : Int).toNat * 2 + 1, none⟩ = false := hfr10 1; clear hcl10 hcc10 hfr10; (try clear hM10); replace p10 := eq_true p10; replace q10 := eq_true q10; have HX12 := Aside0.mk (show Kd.R k76 76 w11 w.heap.size (fun _ => True) (.slice (some ⟨go10, 0, none⟩) x3_1.length co10) x3_1 from zz9); obtain ⟨ce12, hcl12, hM12, hcc12, hfr12⟩ := Kd.R_elem HX12.out z76 (x4_1 : Int) (of_decide_eq_true zz4) (by have h_ : (x4_1 : Int) < ((x3_1.length : Int) : Int) := of_decide_eq_true zz4; first | exact h_ | (have e_ := (Kd.R_reads' HO_3.out).1; omega) | simpa using h_); obtain rfl := k76_openM hM12; have HP12 := Kd.R_seg HX12.out (x4_1 : Int) (of_decide_eq_true zz4) (by have h_ : (x4_1 : Int) < ((x3_1.length : Int) : Int) := of_decide_eq_true zz4; first | exact h_ | (have e_ := (Kd.R_reads' HO_3.out).1; omega) | simpa using h_) (seg := [.int .i64 t105, .int .i64 t106]) (j := 0) hcl12 hcc12 (show 2 ≤ 2 from by decide) (x' := (⟨t105, t106⟩ : S76)) (k76_mkM _ _ _ (⟨t105, t106⟩ : S76) ) (fun _ hk => hk); have hx12_0 := hcc12 0 _ rfl; (try simp only [show (k76).sz = 2 from rfl, Nat.mul_one, Nat.add_zero] at hx12_0); have hf12_0 := hfr12 0; (try simp only [show (k76).sz = 2 from rfl, Nat.mul_one, Nat.add_zero] at hf12_0); have hx12_1 := hcc12 1 _ rfl; (try simp only [show (k76).sz = 2 from rfl, Nat.mul_one, Nat.add_zero] at hx12_1); have hf12_1 := hfr12 1; (try simp only [show (k76).sz = 2 from rfl, Nat.mul_one, Nat.add_zero] at hf12_1); clear hcl12 hcc12 hfr12; (try clear hM12)) | ((with_reducible refine gate_store (t := 76) (p := 21) rfl ?_); refine store_event (t := 76) (p := 21) (v := ?vo_w13) (w1 := ((w11.setCell ⟨go10, (x4_1 : Int).toNat * 2, none⟩ (.int .i64 t105)).setCell ⟨go10, (x4_1 : Int).toNat * 2 + 1, none⟩ (.int .i64 t106))) ?hg ?ho ?hn ?hr ?_; (case ho => rfl); (case hg => rfl); (case hn => rfl); (case hr => exact zz13); intro w13 hw; have hg : w11.grownBy w13 (some go10) := (by rw [hw]; exact HP12.2); have hp_ : Kd.R k76 76 w13 w.heap.size (fun _ => True) (.slice (some ⟨go10, 0, none⟩) x3_1.length co10) y107 := (by rw [hw, Ny107.out]; exact HP12.1); clear HP12; have n_ := zA2 hp_ (by rw [hw]; exact below_set (below_set (HB.out) GB10.out) GB10.out : Below w.heap.size w w13); clear HO_3 HB; obtain ⟨HO_3, HB⟩ := n_; clear hg hw hp_))); go_roundg k1; (case measure => have := HK1.out; omega); case rel => exact ⟨(y107), (wrap64 (x4_1 + 1)), zz5, H', ⟨zz36⟩, ⟨zz9⟩, ⟨zz1⟩⟩
def laws_toGraph.f (k : Nat) (a0_0 : Int) (l0_1 : List (S82)) : Option (Int × (List (S76))) := (laws_toEdgeS.f k l0_1).bind fun t104 => (some (a0_0, t104))
theorem laws_toGraph.mono : ∀ a0 a1 k, LeO (laws_toGraph.f k a0 a1) (laws_toGraph.f (k + 1) a0 a1) := by
 intro a0 a1 k; unfold laws_toGraph.f; repeat' first | (with_reducible apply laws_toEdgeS.mono) | (with_reducible exact LeO.refl _) | (with_reducible exact LeO.none _) | (with_reducible refine LeO.ite ?_ ?_) | (with_reducible refine LeO.bind ?_ (fun _ => ?_)) | apply laws_toEdgeS.mono | exact LeO.none _ | refine LeO.ite ?_ ?_ | refine LeO.bind ?_ (fun _ => ?_)
set_option maxHeartbeats 8000000 in
set_option maxRecDepth 100000 in
theorem laws_toGraph.calls (k : Nat) (a0_0 : Int) (A0_1 : Option Addr) (c0_1 : Nat) (l0_1 : List (S82)) (r1 : Int) (r2 : List (S76)) (w : World) (hr0_1 : Kd.C k82 w A0_1 l0_1.length l0_1) (hc0_1 : l0_1.length ≤ c0_1) (h : laws_toGraph.f k a0_0 l0_1 = some (r1, r2)) :
  Calls Try.prog 9 #[.agg #[.int .i64 a0_0, .slice A0_1 l0_1.length c0_1]] w fun e w' => ∃ v1_ : Value, e = .returned (.agg #[.int .i64 r1, v1_]) ∧ Kd.R k76 76 w' w.heap.size (fun _ => True) v1_ r2 ∧ Below w.heap.size w w' := by
 have hu24 := Try.underlying24; have hu30 := Try.underlying30; have HR0_1 := Aside0.mk hr0_1; have HC0_1 := Aside0.mk hc0_1; clear hr0_1 hc0_1; have HB := Aside0.mk (Below.refl w.heap.size w); have H : ((laws_toEdgeS.f k l0_1).bind fun t104 => (some (a0_0, t104))) = some (r1, r2) := h; clear h; replace H := Option.bind_eq_some_iff.mp H; obtain ⟨t104, A20, H⟩ := H; (try dsimp only at H); have A2 := Aside0.mk A20; clear A20; simp only [Option.some.injEq, Prod.mk.injEq] at H; obtain ⟨rfl, rfl⟩ := H; go_enter Try.func9, Try.ntmps9; (go_wp2_with (first | ((with_reducible refine gate_dst (N := 1) rfl ?_); refine box_event ?hg (N := 1) ?hd (cs := #[.int .i64 a0_0, .slice A0_1 l0_1.length c0_1]) (t := 24) ?hr ?_; (case hd => rfl); (case hg => rfl); (case hr => exact zz13); intro gb101 hg w3 hbox hb; have n_ := zA4 (below_step zz1 hb) hbox (zz12 : w.heap.size ≤ gb101) (zz12 : w.heap.size ≤ gb101); clear HB; obtain ⟨HB, BK101, GW101, GE101⟩ := n_; clear hb hbox hg) | ((with_reducible refine gate_dst (N := 2) rfl ?_); refine box_event ?hg (N := 2) ?hd (cs := #[.int .i64 0, .slice none 0 0]) (t := 30) ?hr ?_; (case hd => rfl); (case hg => rfl); (case hr => exact zz13); intro gb102 hg w4 hbox hb; have n_ := zA7 (blk_below (g := gb101) (o := .cells #[.int .i64 a0_0, .slice A0_1 l0_1.length c0_1] 24 (0, 0)) zz2 hb) (below_step zz0 hb) hbox (zz14 : w.heap.size ≤ gb102) (zz14 : w.heap.size ≤ gb102) (by rw [hg]; exact Nat.ne_of_lt (blk_lt (g := gb101) (o := .cells #[.int .i64 a0_0, .slice A0_1 l0_1.length c0_1] 24 (0, 0)) zz2) : gb101 ≠ gb102) (by rw [hg]; exact Nat.ne_of_gt (blk_lt (g := gb101) (o := .cells #[.int .i64 a0_0, .slice A0_1 l0_1.length c0_1] 24 (0, 0)) zz2) : gb102 ≠ gb101); clear BK101 HB; obtain ⟨BK101, HB, BK102, GW102, GE102, NB101_102, NB102_101⟩ := n_; clear hb hbox hg) | ((with_reducible refine gate_dst (N := 3) rfl ?_); refine box_event ?hg (N := 3) ?hd (cs := #[.int .i64 0, .slice none 0 0]) (t := 30) ?hr ?_; (case hd => rfl); (case hg => rfl); (case hr => exact zz13); intro gb103 hg w5 hbox hb; have n_ := zA10 (blk_below (g := gb101) (o := .cells #[.int .i64 a0_0, .slice A0_1 l0_1.length c0_1] 24 (0, 0)) zz2 hb) (blk_below (g := gb102) (o := .cells #[.int .i64 0, .slice none 0 0] 30 (0, 0)) zz25 hb) (below_step zz21 hb) hbox (by rw [hg]; exact (below_size zz21) : w.heap.size ≤ gb103) (by rw [hg]; exact (below_size zz21) : w.heap.size ≤ gb103) (by rw [hg]; exact Nat.ne_of_lt (blk_lt (g := gb101) (o := .cells #[.int .i64 a0_0, .slice A0_1 l0_1.length c0_1] 24 (0, 0)) zz2) : gb101 ≠ gb103) (by rw [hg]; exact Nat.ne_of_gt (blk_lt (g := gb101) (o := .cells #[.int .i64 a0_0, .slice A0_1 l0_1.length c0_1] 24 (0, 0)) zz2) : gb103 ≠ gb101) (by rw [hg]; exact Nat.ne_of_lt (blk_lt (g := gb102) (o := .cells #[.int .i64 0, .slice none 0 0] 30 (0, 0)) zz25) : gb102 ≠ gb103) (by rw [hg]; exact Nat.ne_of_gt (blk_lt (g := gb102) (o := .cells #[.int .i64 0, .slice none 0 0] 30 (0, 0)) zz25) : gb103 ≠ gb102); clear BK101 BK102 HB; obtain ⟨BK101, BK102, HB, BK103, GW103, GE103, NB101_103, NB103_101, NB102_103, NB103_102⟩ := n_; clear hb hbox hg; have hnb6 := NB101_102.out; have hnc6 := NB102_101.out; have hnb7 := NB101_103.out; have hnc7 := NB103_101.out; have hcz8_0 := zC20 BK101; have hcz8_1 := zC21 BK101; have hfz8_0 := blk_frozen BK101.out 0; have hfz8_1 := blk_frozen BK101.out 1; have hnb9 := NB103_102.out; have hnc9 := NB102_103.out; have hcz10_0 := zC20 BK103; have hcz10_1 := zC21 BK103; have hfz10_0 := blk_frozen BK103.out 0; have hfz10_1 := blk_frozen BK103.out 1) | ((with_reducible refine gate_callee (f := 38) rfl ?_); refine goesL_ (some 9) rfl rfl Try.func38 (by kernel_rfl) rfl #[.slice A0_1 l0_1.length c0_1] rfl zz3 ?_; (with_reducible refine (laws_toEdgeS.calls k _ _ l0_1 t104 _ ?side1 ?side2 A2.out).mono ?_); (case side1 => exact Kd.C_below HR0_1.out zz40); (case side2 => exact HC0_1.out); rintro e w11 ⟨v105, rfl, ho0, hb⟩; refine ⟨_, rfl, ?_⟩; have n_ := zA5 (Kd.R_lower ho0 (below_size zz40)) (blk_below (g := gb101) (o := .cells #[.int .i64 a0_0, .slice A0_1 l0_1.length c0_1] 24 (0, 0)) (by (with_reducible repeat (first | refine blk_drewN ?_ _ | refine blk_drew ?_ | refine blk_alloc ?_ _)); refine blk_far ?_ NB101_103.out _; (with_reducible repeat (first | refine blk_drewN ?_ _ | refine blk_drew ?_ | refine blk_alloc ?_ _)); exact BK101.out) hb) (blk_below (g := gb102) (o := .cells #[.int .i64 0, .slice none 0 0] 30 (0, 0)) (by (with_reducible repeat (first | refine blk_drewN ?_ _ | refine blk_drew ?_ | refine blk_alloc ?_ _)); refine blk_far ?_ NB102_103.out _; (with_reducible repeat (first | refine blk_drewN ?_ _ | refine blk_drew ?_ | refine blk_alloc ?_ _)); exact BK102.out) hb) (blk_below (g := gb103) (o := .cells #[.int .i64 a0_0, .slice none 0 0] 30 (0, 0)) (by (with_reducible repeat (first | refine blk_drewN ?_ _ | refine blk_drew ?_ | refine blk_alloc ?_ _)); refine blk_put (cs := #[.int .i64 0, .slice none 0 0]) ?_ 0 _ rfl; (with_reducible repeat (first | refine blk_drewN ?_ _ | refine blk_drew ?_ | refine blk_alloc ?_ _)); exact BK103.out) hb) (below_step zz40 hb); clear BK101 BK102 BK103 HB; obtain ⟨HO106, BK101, BK102, BK103, HB⟩ := n_; clear ho0 hb; obtain ⟨Ao12, co12, eo12⟩ := Kd.R_slice HO106.out; subst eo12; have hcz13_0 := zC20 BK103; have hcz13_1 := zC21 BK103; have hfz13_0 := blk_frozen BK103.out 0; have hfz13_1 := blk_frozen BK103.out 1; have hcz14_0 := zC20 BK102; have hcz14_1 := zC21 BK102; have hfz14_0 := blk_frozen BK102.out 0; have hfz14_1 := blk_frozen BK102.out 1))); refine bodyPost_ret (results_cell_row rfl _ _ gb102 30 #[.int .i64 a0_0, .slice Ao12 t104.length co12] (0, 0) _ rfl (by (with_reducible repeat (first | refine blk_drewN ?_ _ | refine blk_drew ?_ | refine blk_alloc ?_ _)); refine blk_put (cs := #[.int .i64 a0_0, .slice none 0 0]) ?_ 1 _ rfl; (with_reducible repeat (first | refine blk_drewN ?_ _ | refine blk_drew ?_ | refine blk_alloc ?_ _)); refine blk_put (cs := #[.int .i64 0, .slice none 0 0]) ?_ 0 _ rfl; (with_reducible repeat (first | refine blk_drewN ?_ _ | refine blk_drew ?_ | refine blk_alloc ?_ _)); refine blk_far ?_ NB102_103.out _; (with_reducible repeat (first | refine blk_drewN ?_ _ | refine blk_drew ?_ | refine blk_alloc ?_ _)); exact BK102.out) Try.underlying30 rfl (by kernel_rfl)) rfl ?_; exact ⟨_, zz8, by (with_reducible repeat (first | apply Kd.R_alloc | apply Kd.R_drewN | apply Kd.R_drew)); exact Kd.R_mono (Kd.R_far (p := ⟨gb102, 1, none⟩) (Kd.R_far (p := ⟨gb102, 0, none⟩) (Kd.R_far (p := ⟨gb103, 1, none⟩) (Kd.R_types (Kd.R_types HO106.out BK103.out (by decide)) BK102.out (by decide)) (fun _ hk => hk.1.2) (.slice Ao12 t104.length co12)) (fun _ hk => hk.2) (.int .i64 a0_0)) (fun _ hk => hk.2) (.slice Ao12 t104.length co12)) (fun _ hk => trivial), by repeat (first | (with_reducible first | exact HB.out | apply below_alloc | apply pw_below_drewN | apply below_drew1 | refine below_set ?_ GE101.out | refine below_set ?_ GE102.out | refine below_set ?_ GE103.out) | exact HB.out)⟩
def impl_within.f (a0 : Int) (a1 : Int) (a2 : Int) : Option (Bool) := if a0 ≥ a1 then (some (decide (a0 ≤ a2))) else (some false)
set_option maxHeartbeats 8000000 in
set_option maxRecDepth 100000 in
theorem impl_within.calls (a0 : Int) (a1 : Int) (a2 : Int) (r : Bool) (w : World) (h : impl_within.f a0 a1 a2 = some r) :
  Calls Try.prog 55 #[.int .i64 a0, .int .i64 a1, .int .i64 a2] w fun e w' => e = .returned (.bool r) ∧ Drawn0 w w' := by
 have H : (if a0 ≥ a1 then (some (decide (a0 ≤ a2))) else (some false)) = some r := h; clear h; by_cases c4 : a0 ≥ a1
 ·rw [if_pos c4] at H; have c4b0 : decide (a1 ≤ a0) = true := decide_eq_true c4; clear c4; obtain rfl := Option.some.inj H; go_enter Try.func55, Try.ntmps55; go_wp2; go_ret; exact ⟨zz5, by repeat (first | exact Drawn0.refl _ | apply Drawn0.step)⟩
 rw [if_neg c4] at H; have c4b0 : decide (a1 ≤ a0) = false := decide_eq_false c4; clear c4; obtain rfl := Option.some.inj H; go_enter Try.func55, Try.ntmps55; go_wp2; go_ret; exact ⟨zz5, by repeat (first | exact Drawn0.refl _ | apply Drawn0.step)⟩
mutual
def impl_EdgesOk.j0 : Nat → Bool → Int → List (S76) → Option (Bool)
 | 0, _, _, _ => none
 | k + 1, x14, x102000, x102001 => if x14 = true then (some false) else (impl_EdgesOk.l0 k x102001 (x102001.length : Int) 0 x102000 x102001)
def impl_EdgesOk.l0 : Nat → List (S76) → Int → Int → Int → List (S76) → Option (Bool)
 | 0, _, _, _, _, _ => none
 | k + 1, x16, x17, x18, x102000, x102001 => if x18 < x17 then (if 0 ≤ x18 then (if x18 < (x16.length : Int) then (if ((rd_T76 x16 x18).f0) < 0 then (some false) else (if ((rd_T76 x16 x18).f0) ≥ ((rd_T76 x16 x18).f1) then (some false) else (if ((rd_T76 x16 x18).f1) ≥ x102000 then (some false) else (impl_EdgesOk.l0 k x16 x17 (wrap64 (x18 + 1)) x102000 x102001)))) else (none)) else (none)) else (some true)
end
def impl_EdgesOk.f (k : Nat) (a0_0 : Int) (l0_1 : List (S76)) : Option (Bool) := (impl_within.f a0_0 1 6).bind fun t102 => (if t102 = true then (impl_EdgesOk.j0 k (decide ((l0_1.length : Int) > 12)) a0_0 l0_1) else (impl_EdgesOk.j0 k true a0_0 l0_1))
theorem impl_EdgesOk.mono_l : ∀ k, (∀ y0 y1 y2, LeO (impl_EdgesOk.j0 k y0 y1 y2) (impl_EdgesOk.j0 (k + 1) y0 y1 y2)) ∧ (∀ y0 y1 y2 y3 y4, LeO (impl_EdgesOk.l0 k y0 y1 y2 y3 y4) (impl_EdgesOk.l0 (k + 1) y0 y1 y2 y3 y4))
 | 0 => ⟨fun _ _ _ r h => by simp [impl_EdgesOk.j0] at h, fun _ _ _ _ _ r h => by simp [impl_EdgesOk.l0] at h⟩
 | k + 1 => by
  obtain ⟨ih0, ih1⟩ := impl_EdgesOk.mono_l k
  refine ⟨?_, ?_⟩
  ·intro y0 y1 y2
   unfold impl_EdgesOk.j0
   exact zm1
  ·intro y0 y1 y2 y3 y4
   unfold impl_EdgesOk.l0
   exact zm1
theorem impl_EdgesOk.mono : ∀ a0 a1 k, LeO (impl_EdgesOk.f k a0 a1) (impl_EdgesOk.f (k + 1) a0 a1) := by
 intro a0 a1 k; obtain ⟨ih0, ih1⟩ := impl_EdgesOk.mono_l k; unfold impl_EdgesOk.f; exact zm1
set_option maxHeartbeats 8000000 in
set_option maxRecDepth 100000 in
theorem impl_EdgesOk.calls (k : Nat) (a0_0 : Int) (A0_1 : Option Addr) (c0_1 : Nat) (l0_1 : List (S76)) (r : Bool) (w : World) (hr0_1 : Kd.C k76 w A0_1 l0_1.length l0_1) (hc0_1 : l0_1.length ≤ c0_1) (h : impl_EdgesOk.f k a0_0 l0_1 = some r) :
  Calls Try.prog 73 #[.agg #[.int .i64 a0_0, .slice A0_1 l0_1.length c0_1]] w fun e w' => e = .returned (.bool r) ∧ Below w.heap.size w w' := by
 have hu30 := Try.underlying30; have hu76 := Try.underlying76; have HR0_1 := Aside0.mk hr0_1; have HC0_1 := Aside0.mk hc0_1; clear hr0_1 hc0_1; have HB := Aside0.mk (Below.refl w.heap.size w); have H : ((impl_within.f a0_0 1 6).bind fun t102 => (if t102 = true then (impl_EdgesOk.j0 k (decide ((l0_1.length : Int) > 12)) a0_0 l0_1) else (impl_EdgesOk.j0 k true a0_0 l0_1))) = some r := h; clear h; have HC2 := Aside0.mk H; clear H; go_enter Try.func73, Try.ntmps73; (go_upto_region 1 with (first | ((with_reducible refine gate_dst (N := 1) rfl ?_); (try (refine gate_guard (by rfl) ?_; dsimp only)); refine box_event ?hg (N := 1) ?hd (cs := #[.int .i64 a0_0, .slice A0_1 l0_1.length c0_1]) (t := 30) ?hr ?_; (case hd => rfl); (case hg => rfl); (case hr => exact zz13); intro gb101 hg w3 hbox hb; have n_ := zA4 (below_step zz1 hb) hbox (zz12 : w.heap.size ≤ gb101) (zz12 : w.heap.size ≤ gb101); clear HB; obtain ⟨HB, BK101, GW101, GE101⟩ := n_; clear hb hbox hg))); (try simp only [Act.put, List.setIfInBounds_toArray, List.set_cons_zero, List.set_cons_succ]); go_cut [14] (fun v14 wc => ∃ (kq : Nat) (x14_1 : Bool), v14 = .bool x14_1 ∧ Aside0 (impl_EdgesOk.j0 kq x14_1 a0_0 l0_1 = some r) ∧ Aside0 (kq ≤ k) ∧ Aside0 (wc.heap[gb101]? = some (.cells #[.int .i64 a0_0, (.slice A0_1 l0_1.length c0_1)] 30 (0, 0))) ∧ Aside0 (Below w.heap.size w wc))
 case first =>
  have H := HC2.out; clear HC2; replace H := Option.bind_eq_some_iff.mp H; obtain ⟨t102, A40, H⟩ := H; (try dsimp only at H); have A4 := Aside0.mk A40; clear A40; by_cases c5 : t102 = true
  ·subst c5; rw [if_pos rfl] at H; have H' := Aside0.mk H; clear H; have hcz6_0 := zC20 BK101; have hcz6_1 := zC21 BK101; have hfz6_0 := blk_frozen BK101.out 0; have hfz6_1 := blk_frozen BK101.out 1; (go_wp2_with (first | ((with_reducible refine gate_callee (f := 55) rfl ?_); refine goesL_ (some 7) rfl rfl Try.func55 (by kernel_rfl) rfl #[.int .i64 a0_0, .int .i64 1, .int .i64 6] rfl zz3 ?_; (with_reducible refine (impl_within.calls a0_0 1 6 true _ A4.out).mono ?_); rintro e w' ⟨rfl, ⟨nd, rfl⟩⟩; refine ⟨_, rfl, ?_⟩))); (go_meet); case rel => exact ⟨_, (decide ((l0_1.length : Int) > 12)), zz5, H', ⟨by first | omega | exact Nat.le_refl _⟩, ⟨zz2⟩, ⟨zz0⟩⟩
  replace c5 := Bool.eq_false_iff.mpr c5; subst c5; rw [if_neg (show ¬ (false = true) by decide)] at H; have H' := Aside0.mk H; clear H; have hcz7_0 := zC20 BK101; have hcz7_1 := zC21 BK101; have hfz7_0 := blk_frozen BK101.out 0; have hfz7_1 := blk_frozen BK101.out 1; (go_wp2_with (first | ((with_reducible refine gate_callee (f := 55) rfl ?_); refine goesL_ (some 7) rfl rfl Try.func55 (by kernel_rfl) rfl #[.int .i64 a0_0, .int .i64 1, .int .i64 6] rfl zz3 ?_; (with_reducible refine (impl_within.calls a0_0 1 6 false _ A4.out).mono ?_); rintro e w' ⟨rfl, ⟨nd, rfl⟩⟩; refine ⟨_, rfl, ?_⟩))); (go_meet); case rel => exact ⟨_, (true), zz5, H', ⟨by first | omega | exact Nat.le_refl _⟩, ⟨zz2⟩, ⟨zz0⟩⟩
 case rest =>
  clear HC2; (try clear p2); (try clear c5); (try clear c7); (try clear hcz6_0); (try clear hcz6_1); (try clear hcz7_0); (try clear hcz7_1); (try clear hfz6_0); (try clear hfz6_1); (try clear hfz7_0); (try clear hfz7_1); obtain ⟨kq, x14_1, rfl, HA, HJ1, BK101, HB⟩ := hcut
  cases kq with
  | zero => exact absurd HA.out (by simp [impl_EdgesOk.j0])
  | succ kj1 =>
   have H := HA.out; clear HA; simp only [impl_EdgesOk.j0] at H; by_cases c8 : x14_1 = true
   ·subst c8; rw [if_pos rfl] at H; obtain rfl := Option.some.inj H; go_wp2; go_ret; exact ⟨zz8, zz0⟩
   replace c8 := Bool.eq_false_iff.mpr c8; subst c8; rw [if_neg (show ¬ (false = true) by decide)] at H; have H' := Aside0.mk H; clear H; have hcz9_0 := zC20 BK101; have hcz9_1 := zC21 BK101; have hfz9_0 := blk_frozen BK101.out 0; have hfz9_1 := blk_frozen BK101.out 1; go_wp2; (go_loopg [18] kj1 (fun kq v18 w' => ∃ (x18_2 : Int), v18 = .int .i64 x18_2 ∧ Aside0 (impl_EdgesOk.l0 kq l0_1 (l0_1.length : Int) x18_2 a0_0 l0_1 = some r) ∧ Aside0 (kq ≤ kj1) ∧ Aside0 (w'.heap[gb101]? = some (.cells #[.int .i64 a0_0, (.slice A0_1 l0_1.length c0_1)] 30 (0, 0))) ∧ Aside0 (Below w.heap.size w w'))); case atStart => exact ⟨(0), zz5, H', ⟨Nat.le_refl _⟩, ⟨zz2⟩, ⟨zz0⟩⟩
   case round =>
    clear H'; (try clear p2); (try clear c5); (try clear c7); (try clear c8); (try clear hcz6_0); (try clear hcz6_1); (try clear hcz7_0); (try clear hcz7_1); (try clear hcz9_0); (try clear hcz9_1); (try clear hfz6_0); (try clear hfz6_1); (try clear hfz7_0); (try clear hfz7_1); (try clear hfz9_0); (try clear hfz9_1); (try clear p2); obtain ⟨x18_2, rfl, HA, HK2, BK101, HB⟩ := hrel
    cases gk with
    | zero => exact absurd HA.out (by simp [impl_EdgesOk.l0])
    | succ k2 =>
     have H := HA.out; clear HA; simp only [impl_EdgesOk.l0] at H; by_cases c10 : x18_2 < (l0_1.length : Int); rotate_left
     ·rw [if_neg c10] at H; have c10b0 := decide_eq_false c10; clear c10; obtain rfl := Option.some.inj H; go_wp2; go_ret; exact ⟨zz8, zz0⟩
     rw [if_pos c10] at H; have c10b0 := decide_eq_true c10; clear c10; by_cases c11 : 0 ≤ x18_2; rotate_left
     ·rw [if_neg c11] at H; exact absurd H (by simp)
     rw [if_pos c11] at H; have c11b0 := decide_eq_true c11; clear c11; by_cases c12 : x18_2 < (l0_1.length : Int); rotate_left
     ·rw [if_neg c12] at H; exact absurd H (by simp)
     rw [if_pos c12] at H; have c12b0 := decide_eq_true c12; clear c12; by_cases c13 : ((rd_T76 l0_1 x18_2).f0) < 0
     ·rw [if_pos c13] at H; have c13b0 := decide_eq_true c13; clear c13; obtain rfl := Option.some.inj H; have p103 : 0 ≤ (x18_2 : Int) := of_decide_eq_true zz4; have q103 : x18_2 < (l0_1.length : Int) := of_decide_eq_true zz4; obtain ⟨ad103, e103, hx103_0, hx103_1⟩ := at_T76 HR0_1.out x18_2 p103 q103; cases e103; replace hx103_0 := (HB.out.cell (World.block_lt_of_cell? w _ hx103_0)).trans hx103_0; replace hx103_1 := (HB.out.cell (World.block_lt_of_cell? w _ hx103_1)).trans hx103_1; replace p103 := eq_true p103; replace q103 := eq_true q103; (go_wp2_with (first | ((with_reducible refine gate_dst (N := 4) rfl ?_); (try (refine gate_guard (by rfl) ?_; dsimp only)); refine box_event ?hg (N := 4) ?hd (cs := #[.int .i64 0, .int .i64 0]) (t := 76) ?hr ?_; (case hd => rfl); (case hg => rfl); (case hr => exact zz13); intro gb104 hg w14 hbox hb; have n_ := zA7 (blk_below (g := gb101) (o := .cells #[.int .i64 a0_0, .slice (some ad103) l0_1.length c0_1] 30 (0, 0)) zz2 hb) (below_step zz0 hb) hbox (zz14 : w.heap.size ≤ gb104) (zz14 : w.heap.size ≤ gb104) (zz17 : gb101 ≠ gb104) (zz18 : gb104 ≠ gb101); clear BK101 HB; obtain ⟨BK101, HB, BK104, GW104, GE104, NB101_104, NB104_101⟩ := n_; clear hb hbox hg; have hnb15 := NB104_101.out; have hnc15 := NB101_104.out; have hcz16_0 := zC20 BK104; have hcz16_1 := zC21 BK104; have hfz16_0 := blk_frozen BK104.out 0; have hfz16_1 := blk_frozen BK104.out 1))); go_ret; exact ⟨zz8, zz10⟩
     rw [if_neg c13] at H; have c13b0 := decide_eq_false c13; clear c13; by_cases c17 : ((rd_T76 l0_1 x18_2).f0) ≥ ((rd_T76 l0_1 x18_2).f1)
     ·rw [if_pos c17] at H; have c17b0 : decide (((rd_T76 l0_1 x18_2).f1) ≤ ((rd_T76 l0_1 x18_2).f0)) = true := decide_eq_true c17; clear c17; obtain rfl := Option.some.inj H; have p103 : 0 ≤ (x18_2 : Int) := of_decide_eq_true zz4; have q103 : x18_2 < (l0_1.length : Int) := of_decide_eq_true zz4; obtain ⟨ad103, e103, hx103_0, hx103_1⟩ := at_T76 HR0_1.out x18_2 p103 q103; cases e103; replace hx103_0 := (HB.out.cell (World.block_lt_of_cell? w _ hx103_0)).trans hx103_0; replace hx103_1 := (HB.out.cell (World.block_lt_of_cell? w _ hx103_1)).trans hx103_1; replace p103 := eq_true p103; replace q103 := eq_true q103; (go_wp2_with (first | ((with_reducible refine gate_dst (N := 4) rfl ?_); (try (refine gate_guard (by rfl) ?_; dsimp only)); refine box_event ?hg (N := 4) ?hd (cs := #[.int .i64 0, .int .i64 0]) (t := 76) ?hr ?_; (case hd => rfl); (case hg => rfl); (case hr => exact zz13); intro gb104 hg w18 hbox hb; have n_ := zA7 (blk_below (g := gb101) (o := .cells #[.int .i64 a0_0, .slice (some ad103) l0_1.length c0_1] 30 (0, 0)) zz2 hb) (below_step zz0 hb) hbox (zz14 : w.heap.size ≤ gb104) (zz14 : w.heap.size ≤ gb104) (zz17 : gb101 ≠ gb104) (zz18 : gb104 ≠ gb101); clear BK101 HB; obtain ⟨BK101, HB, BK104, GW104, GE104, NB101_104, NB104_101⟩ := n_; clear hb hbox hg; have hnb19 := NB104_101.out; have hnc19 := NB101_104.out; have hcz20_0 := zC20 BK104; have hcz20_1 := zC21 BK104; have hfz20_0 := blk_frozen BK104.out 0; have hfz20_1 := blk_frozen BK104.out 1))); go_ret; exact ⟨zz8, zz10⟩
     rw [if_neg c17] at H; have c17b0 : decide (((rd_T76 l0_1 x18_2).f1) ≤ ((rd_T76 l0_1 x18_2).f0)) = false := decide_eq_false c17; clear c17; by_cases c21 : ((rd_T76 l0_1 x18_2).f1) ≥ a0_0
     ·rw [if_pos c21] at H; have c21b0 : decide (a0_0 ≤ ((rd_T76 l0_1 x18_2).f1)) = true := decide_eq_true c21; clear c21; obtain rfl := Option.some.inj H; have p103 : 0 ≤ (x18_2 : Int) := of_decide_eq_true zz4; have q103 : x18_2 < (l0_1.length : Int) := of_decide_eq_true zz4; obtain ⟨ad103, e103, hx103_0, hx103_1⟩ := at_T76 HR0_1.out x18_2 p103 q103; cases e103; replace hx103_0 := (HB.out.cell (World.block_lt_of_cell? w _ hx103_0)).trans hx103_0; replace hx103_1 := (HB.out.cell (World.block_lt_of_cell? w _ hx103_1)).trans hx103_1; replace p103 := eq_true p103; replace q103 := eq_true q103; (go_wp2_with (first | ((with_reducible refine gate_dst (N := 4) rfl ?_); (try (refine gate_guard (by rfl) ?_; dsimp only)); refine box_event ?hg (N := 4) ?hd (cs := #[.int .i64 0, .int .i64 0]) (t := 76) ?hr ?_; (case hd => rfl); (case hg => rfl); (case hr => exact zz13); intro gb104 hg w22 hbox hb; have n_ := zA7 (blk_below (g := gb101) (o := .cells #[.int .i64 a0_0, .slice (some ad103) l0_1.length c0_1] 30 (0, 0)) zz2 hb) (below_step zz0 hb) hbox (zz14 : w.heap.size ≤ gb104) (zz14 : w.heap.size ≤ gb104) (zz17 : gb101 ≠ gb104) (zz18 : gb104 ≠ gb101); clear BK101 HB; obtain ⟨BK101, HB, BK104, GW104, GE104, NB101_104, NB104_101⟩ := n_; clear hb hbox hg; have hnb23 := NB104_101.out; have hnc23 := NB101_104.out; have hcz24_0 := zC20 BK104; have hcz24_1 := zC21 BK104; have hfz24_0 := blk_frozen BK104.out 0; have hfz24_1 := blk_frozen BK104.out 1; have hcz25_0 := zC20 BK101; have hcz25_1 := zC21 BK101; have hfz25_0 := blk_frozen BK101.out 0; have hfz25_1 := blk_frozen BK101.out 1))); go_ret; exact ⟨zz8, zz10⟩
     rw [if_neg c21] at H; have c21b0 : decide (a0_0 ≤ ((rd_T76 l0_1 x18_2).f1)) = false := decide_eq_false c21; clear c21; have H' := Aside0.mk H; clear H; have p103 : 0 ≤ (x18_2 : Int) := of_decide_eq_true zz4; have q103 : x18_2 < (l0_1.length : Int) := of_decide_eq_true zz4; obtain ⟨ad103, e103, hx103_0, hx103_1⟩ := at_T76 HR0_1.out x18_2 p103 q103; cases e103; replace hx103_0 := (HB.out.cell (World.block_lt_of_cell? w _ hx103_0)).trans hx103_0; replace hx103_1 := (HB.out.cell (World.block_lt_of_cell? w _ hx103_1)).trans hx103_1; replace p103 := eq_true p103; replace q103 := eq_true q103; (go_wp2_with (first | ((with_reducible refine gate_dst (N := 4) rfl ?_); (try (refine gate_guard (by rfl) ?_; dsimp only)); refine box_event ?hg (N := 4) ?hd (cs := #[.int .i64 0, .int .i64 0]) (t := 76) ?hr ?_; (case hd => rfl); (case hg => rfl); (case hr => exact zz13); intro gb104 hg w26 hbox hb; have n_ := zA7 (blk_below (g := gb101) (o := .cells #[.int .i64 a0_0, .slice (some ad103) l0_1.length c0_1] 30 (0, 0)) zz2 hb) (below_step zz0 hb) hbox (zz14 : w.heap.size ≤ gb104) (zz14 : w.heap.size ≤ gb104) (zz17 : gb101 ≠ gb104) (zz18 : gb104 ≠ gb101); clear BK101 HB; obtain ⟨BK101, HB, BK104, GW104, GE104, NB101_104, NB104_101⟩ := n_; clear hb hbox hg; have hnb27 := NB104_101.out; have hnc27 := NB101_104.out; have hcz28_0 := zC20 BK104; have hcz28_1 := zC21 BK104; have hfz28_0 := blk_frozen BK104.out 0; have hfz28_1 := blk_frozen BK104.out 1; have hcz29_0 := zC20 BK101; have hcz29_1 := zC21 BK101; have hfz29_0 := blk_frozen BK101.out 0; have hfz29_1 := blk_frozen BK101.out 1))); go_roundg k2; (case measure => have := HJ1.out; have := HK2.out; omega); case rel => exact ⟨(wrap64 (x18_2 + 1)), zz5, H', ⟨by have := HJ1.out; have := HK2.out; omega⟩, ⟨zz11⟩, ⟨zz10⟩⟩
end Go.Proofs.Ytkcbinohpdhbgaa.P
end

section
namespace Go.Proofs.Ytkcbinohpdhbgaa.P
open Go.RowKit Go.Proofs.YtkcbinohpdhbgaaW.PrintWords Go.Proofs.YtkcbinohpdhbgaaW.PrintLast Go.Proofs.YtkcbinohpdhbgaaW.PrintMore
attribute [local go_sem] max2_int min2_int max_two min_two max_three min_three max_four min_four
set_option linter.unusedVariables false
set_option linter.unusedSimpArgs false
mutual
def impl_connected.l0 : Nat → Int → List (S76) → Int → Int → Int → Option (Bool)
 | 0, _, _, _, _, _ => none
 | k + 1, x0, x1, x5, x8, x9 => if x9 < x8 then (impl_connected.l1 k x0 x1 x5 x8 x9 x1 (x1.length : Int) 0) else (if 0 ≤ x0 then (some (x5 == (wrap64 ((shl .i64 1 x0) - 1)))) else (none))
def impl_connected.l1 : Nat → Int → List (S76) → Int → Int → Int → List (S76) → Int → Int → Option (Bool)
 | 0, _, _, _, _, _, _, _, _ => none
 | k + 1, x0, x1, x5, x8, x9, x11, x12, x13 => if x13 < x12 then (if 0 ≤ x13 then (if x13 < (x11.length : Int) then (if 0 ≤ ((rd_T76 x11 x13).f0) then (if (Go.bits .and .i64 (shr .i64 x5 ((rd_T76 x11 x13).f0)) 1) = 1 then (if 0 ≤ ((rd_T76 x11 x13).f1) then (impl_connected.l1 k x0 x1 (Go.bits .or .i64 x5 (Go.bits .or .i64 (shl .i64 1 ((rd_T76 x11 x13).f0)) (shl .i64 1 ((rd_T76 x11 x13).f1)))) x8 x9 x11 x12 (wrap64 (x13 + 1))) else (none)) else (if 0 ≤ ((rd_T76 x11 x13).f1) then (if (Go.bits .and .i64 (shr .i64 x5 ((rd_T76 x11 x13).f1)) 1) = 1 then (impl_connected.l1 k x0 x1 (Go.bits .or .i64 x5 (Go.bits .or .i64 (shl .i64 1 ((rd_T76 x11 x13).f0)) (shl .i64 1 ((rd_T76 x11 x13).f1)))) x8 x9 x11 x12 (wrap64 (x13 + 1))) else (impl_connected.l1 k x0 x1 x5 x8 x9 x11 x12 (wrap64 (x13 + 1)))) else (none))) else (none)) else (none)) else (none)) else (impl_connected.l0 k x0 x1 x5 x8 (wrap64 (x9 + 1)))
end
def impl_connected.f (k : Nat) (a0 : Int) (l1 : List (S76)) : Option (Bool) := impl_connected.l0 k a0 l1 1 a0 0
theorem impl_connected.mono_l : ∀ k, (∀ y0 y1 y2 y3 y4, LeO (impl_connected.l0 k y0 y1 y2 y3 y4) (impl_connected.l0 (k + 1) y0 y1 y2 y3 y4)) ∧ (∀ y0 y1 y2 y3 y4 y5 y6 y7, LeO (impl_connected.l1 k y0 y1 y2 y3 y4 y5 y6 y7) (impl_connected.l1 (k + 1) y0 y1 y2 y3 y4 y5 y6 y7))
 | 0 => ⟨fun _ _ _ _ _ r h => by simp [impl_connected.l0] at h, fun _ _ _ _ _ _ _ _ r h => by simp [impl_connected.l1] at h⟩
 | k + 1 => by
  obtain ⟨ih0, ih1⟩ := impl_connected.mono_l k
  refine ⟨?_, ?_⟩
  ·intro y0 y1 y2 y3 y4
   unfold impl_connected.l0
   exact zm1
  ·intro y0 y1 y2 y3 y4 y5 y6 y7
   unfold impl_connected.l1
   exact zm1
theorem impl_connected.mono : ∀ a0 a1 k, LeO (impl_connected.f k a0 a1) (impl_connected.f (k + 1) a0 a1) := by
 intro a0 a1 k; obtain ⟨ih0, ih1⟩ := impl_connected.mono_l k; unfold impl_connected.f; exact zm1
set_option maxHeartbeats 8000000 in
set_option maxRecDepth 100000 in
theorem impl_connected.calls (k : Nat) (a0 : Int) (A1 : Option Addr) (c1 : Nat) (l1 : List (S76)) (r : Bool) (w : World) (hr1 : Kd.C k76 w A1 l1.length l1) (hc1 : l1.length ≤ c1) (h : impl_connected.f k a0 l1 = some r) :
  Calls Try.prog 76 #[.int .i64 a0, .slice A1 l1.length c1] w fun e w' => e = .returned (.bool r) ∧ Below w.heap.size w w' := by
 have hu76 := Try.underlying76; have HR1 := Aside0.mk hr1; have HC1 := Aside0.mk hc1; clear hr1 hc1; have HB := Aside0.mk (Below.refl w.heap.size w); have H : (impl_connected.l0 k a0 l1 1 a0 0) = some r := h; clear h; have H' := Aside0.mk H; clear H; go_enter Try.func76, Try.ntmps76; go_wp2; (repeat (go_quiet (fail); try go_wp2)); (go_loopg [5, 9] k (fun kq v5 v9 w' => ∃ (x5_1 : Int) (x9_1 : Int), v5 = .int .i64 x5_1 ∧ v9 = .int .i64 x9_1 ∧ Aside0 (impl_connected.l0 kq a0 l1 x5_1 a0 x9_1 = some r) ∧ Aside0 (kq ≤ k) ∧ Aside0 (Below w.heap.size w w'))); case atStart => exact ⟨(1), (0), zz5, zz5, H', ⟨Nat.le_refl _⟩, ⟨zz1⟩⟩
 case round =>
  clear H'; (try clear c1); (try clear p2); obtain ⟨x5_1, x9_1, rfl, rfl, HA, HK1, HB⟩ := hrel
  cases gk with
  | zero => exact absurd HA.out (by simp [impl_connected.l0])
  | succ k1 =>
   have H := HA.out; clear HA; simp only [impl_connected.l0] at H; by_cases c3 : x9_1 < a0; rotate_left
   ·rw [if_neg c3] at H; have c3b0 := decide_eq_false c3; clear c3; by_cases c27 : 0 ≤ a0; rotate_left
    ·rw [if_neg c27] at H; exact absurd H (by simp)
    rw [if_pos c27] at H; have c27b0 := eq_true c27; have c27b1 : decide (0 ≤ a0) = true := decide_eq_true c27; clear c27; obtain ⟨ji28, hji28⟩ : ∃ j_ : Int, (shl .i64 1 a0) = j_ := ⟨_, rfl⟩; (replace H : (some (x5_1 == (wrap64 ((ji28) - 1)))) = some r := by first | (rw [hji28] at H; exact H) | (simp only [hji28] at H ⊢; exact H)); have hji28_ : (IntKind.i64.wrap (1 * 2 ^ min a0.toNat 64)) = ji28 := hji28; have hji28z : a0 ≤ 64 → (IntKind.i64.wrap (1 * 2 ^ a0.toNat)) = ji28 := shl_small hji28; (have hji28u : (IntKind.i64.wrap (2 ^ min a0.toNat 64)) = ji28 := by have h_ := hji28_; rw [Int.one_mul] at h_; exact h_); (have hji28v : a0 ≤ 64 → (IntKind.i64.wrap (2 ^ a0.toNat)) = ji28 := fun hle_ => by have h_ := hji28z hle_; rw [Int.one_mul] at h_; exact h_); have hji28y : (wrap64 (1 * 2 ^ min a0.toNat 64)) = ji28 := (i64_w _).symm.trans hji28_; (have hji28x : a0 ≤ 64 → (wrap64 (1 * 2 ^ a0.toNat)) = ji28 := fun h_ => (i64_w _).symm.trans (hji28z h_)); obtain rfl := Option.some.inj H; go_wp2; (repeat (go_quiet (fail); try go_wp2)); go_ret; exact ⟨by first | rfl | (simp [errW_none, errW_some] <;> rfl) | (simp only [← hji28]; first | rfl | (simp [errW_none, errW_some] <;> rfl)) | (simp [*, errW_none, errW_some] <;> rfl), zz1⟩
   rw [if_pos c3] at H; have c3b0 := decide_eq_true c3; clear c3; have H' := Aside0.mk H; clear H; go_wp2; (repeat (go_quiet (fail); try go_wp2)); (go_loopg [5, 13] k1 (fun kq v5 v13 w' => ∃ (x5_2 : Int) (x13_2 : Int), v5 = .int .i64 x5_2 ∧ v13 = .int .i64 x13_2 ∧ Aside0 (impl_connected.l1 kq a0 l1 x5_2 a0 x9_1 l1 (l1.length : Int) x13_2 = some r) ∧ Aside0 (kq ≤ k1) ∧ Aside0 (Below w.heap.size w w'))); case atStart => exact ⟨(x5_1), (0), zz5, zz5, H', ⟨Nat.le_refl _⟩, ⟨zz1⟩⟩
   case round =>
    clear H'; (try clear c1); (try clear p2); (try clear c3); (try clear c3b0); (try clear p2); obtain ⟨x5_2, x13_2, rfl, rfl, HA, HK2, HB⟩ := hrel
    cases gk with
    | zero => exact absurd HA.out (by simp [impl_connected.l1])
    | succ k2 =>
     have H := HA.out; clear HA; simp only [impl_connected.l1] at H; by_cases c4 : x13_2 < (l1.length : Int); rotate_left
     ·rw [if_neg c4] at H; have c4b0 := decide_eq_false c4; clear c4; have H' := Aside0.mk H; clear H; go_wp2; (repeat (go_quiet (fail); try go_wp2)); go_roundg k2; (case measure => have := HK1.out; have := HK2.out; omega); case rel => exact ⟨(x5_2), (wrap64 (x9_1 + 1)), zz5, zz5, H', ⟨zz37⟩, ⟨zz1⟩⟩
     rw [if_pos c4] at H; have c4b0 := decide_eq_true c4; clear c4; by_cases c5 : 0 ≤ x13_2; rotate_left
     ·rw [if_neg c5] at H; exact absurd H (by simp)
     rw [if_pos c5] at H; have c5b0 := decide_eq_true c5; clear c5; by_cases c6 : x13_2 < (l1.length : Int); rotate_left
     ·rw [if_neg c6] at H; exact absurd H (by simp)
     rw [if_pos c6] at H; have c6b0 := decide_eq_true c6; clear c6; by_cases c7 : 0 ≤ ((rd_T76 l1 x13_2).f0); rotate_left
     ·rw [if_neg c7] at H; exact absurd H (by simp)
     rw [if_pos c7] at H; have c7b0 := eq_true c7; have c7b1 : decide (0 ≤ ((rd_T76 l1 x13_2).f0)) = true := decide_eq_true c7; clear c7; obtain ⟨ji8, hji8⟩ : ∃ j_ : Int, (shr .i64 x5_2 ((rd_T76 l1 x13_2).f0)) = j_ := ⟨_, rfl⟩; (replace H : (if (Go.bits .and .i64 (ji8) 1) = 1 then (if 0 ≤ ((rd_T76 l1 x13_2).f1) then (impl_connected.l1 k2 a0 l1 (Go.bits .or .i64 x5_2 (Go.bits .or .i64 (shl .i64 1 ((rd_T76 l1 x13_2).f0)) (shl .i64 1 ((rd_T76 l1 x13_2).f1)))) a0 x9_1 l1 (l1.length : Int) (wrap64 (x13_2 + 1))) else (none)) else (if 0 ≤ ((rd_T76 l1 x13_2).f1) then (if (Go.bits .and .i64 (shr .i64 x5_2 ((rd_T76 l1 x13_2).f1)) 1) = 1 then (impl_connected.l1 k2 a0 l1 (Go.bits .or .i64 x5_2 (Go.bits .or .i64 (shl .i64 1 ((rd_T76 l1 x13_2).f0)) (shl .i64 1 ((rd_T76 l1 x13_2).f1)))) a0 x9_1 l1 (l1.length : Int) (wrap64 (x13_2 + 1))) else (impl_connected.l1 k2 a0 l1 x5_2 a0 x9_1 l1 (l1.length : Int) (wrap64 (x13_2 + 1)))) else (none))) = some r := by first | (rw [hji8] at H; exact H) | (simp only [hji8] at H ⊢; exact H)); have hji8_ : (x5_2 / 2 ^ min ((rd_T76 l1 x13_2).f0).toNat 64) = ji8 := hji8; have hji8z : ((rd_T76 l1 x13_2).f0) ≤ 64 → (x5_2 / 2 ^ ((rd_T76 l1 x13_2).f0).toNat) = ji8 := shr_small hji8; by_cases c9 : (Go.bits .and .i64 (ji8) 1) = 1
     ·rw [if_pos c9] at H; have c9b0 : ((Go.bits .and .i64 (ji8) 1) == 1) = true := beq_iff_eq.mpr c9; have c9b1 : ((Go.bits .and .i64 (ji8) 1) != 1) = false := bne_eq_false_iff_eq.mpr c9; clear c9; have c10b0 := eq_true (of_decide_eq_true zz4 : 0 ≤ ((rd_T76 l1 x13_2).f0)); obtain ⟨ji11, hji11⟩ : ∃ j_ : Int, (shl .i64 1 ((rd_T76 l1 x13_2).f0)) = j_ := ⟨_, rfl⟩; (replace H : (if 0 ≤ ((rd_T76 l1 x13_2).f1) then (impl_connected.l1 k2 a0 l1 (Go.bits .or .i64 x5_2 (Go.bits .or .i64 (ji11) (shl .i64 1 ((rd_T76 l1 x13_2).f1)))) a0 x9_1 l1 (l1.length : Int) (wrap64 (x13_2 + 1))) else (none)) = some r := by first | (rw [hji11] at H; exact H) | (simp only [hji11] at H ⊢; exact H)); have hji11_ : (IntKind.i64.wrap (1 * 2 ^ min ((rd_T76 l1 x13_2).f0).toNat 64)) = ji11 := hji11; have hji11z : ((rd_T76 l1 x13_2).f0) ≤ 64 → (IntKind.i64.wrap (1 * 2 ^ ((rd_T76 l1 x13_2).f0).toNat)) = ji11 := shl_small hji11; (have hji11u : (IntKind.i64.wrap (2 ^ min ((rd_T76 l1 x13_2).f0).toNat 64)) = ji11 := by have h_ := hji11_; rw [Int.one_mul] at h_; exact h_); (have hji11v : ((rd_T76 l1 x13_2).f0) ≤ 64 → (IntKind.i64.wrap (2 ^ ((rd_T76 l1 x13_2).f0).toNat)) = ji11 := fun hle_ => by have h_ := hji11z hle_; rw [Int.one_mul] at h_; exact h_); have hji11y : (wrap64 (1 * 2 ^ min ((rd_T76 l1 x13_2).f0).toNat 64)) = ji11 := (i64_w _).symm.trans hji11_; (have hji11x : ((rd_T76 l1 x13_2).f0) ≤ 64 → (wrap64 (1 * 2 ^ ((rd_T76 l1 x13_2).f0).toNat)) = ji11 := fun h_ => (i64_w _).symm.trans (hji11z h_)); by_cases c12 : 0 ≤ ((rd_T76 l1 x13_2).f1); rotate_left
      ·rw [if_neg c12] at H; exact absurd H (by simp)
      rw [if_pos c12] at H; have c12b0 := eq_true c12; have c12b1 : decide (0 ≤ ((rd_T76 l1 x13_2).f1)) = true := decide_eq_true c12; clear c12; obtain ⟨ji13, hji13⟩ : ∃ j_ : Int, (shl .i64 1 ((rd_T76 l1 x13_2).f1)) = j_ := ⟨_, rfl⟩; (replace H : (impl_connected.l1 k2 a0 l1 (Go.bits .or .i64 x5_2 (Go.bits .or .i64 (ji11) (ji13))) a0 x9_1 l1 (l1.length : Int) (wrap64 (x13_2 + 1))) = some r := by first | (rw [hji13] at H; exact H) | (simp only [hji13] at H ⊢; exact H)); have hji13_ : (IntKind.i64.wrap (1 * 2 ^ min ((rd_T76 l1 x13_2).f1).toNat 64)) = ji13 := hji13; have hji13z : ((rd_T76 l1 x13_2).f1) ≤ 64 → (IntKind.i64.wrap (1 * 2 ^ ((rd_T76 l1 x13_2).f1).toNat)) = ji13 := shl_small hji13; (have hji13u : (IntKind.i64.wrap (2 ^ min ((rd_T76 l1 x13_2).f1).toNat 64)) = ji13 := by have h_ := hji13_; rw [Int.one_mul] at h_; exact h_); (have hji13v : ((rd_T76 l1 x13_2).f1) ≤ 64 → (IntKind.i64.wrap (2 ^ ((rd_T76 l1 x13_2).f1).toNat)) = ji13 := fun hle_ => by have h_ := hji13z hle_; rw [Int.one_mul] at h_; exact h_); have hji13y : (wrap64 (1 * 2 ^ min ((rd_T76 l1 x13_2).f1).toNat 64)) = ji13 := (i64_w _).symm.trans hji13_; (have hji13x : ((rd_T76 l1 x13_2).f1) ≤ 64 → (wrap64 (1 * 2 ^ ((rd_T76 l1 x13_2).f1).toNat)) = ji13 := fun h_ => (i64_w _).symm.trans (hji13z h_)); have H' := Aside0.mk H; clear H; have p101 : 0 ≤ (x13_2 : Int) := of_decide_eq_true zz4; have q101 : x13_2 < (l1.length : Int) := of_decide_eq_true zz4; obtain ⟨ad101, e101, hx101_0, hx101_1⟩ := at_T76 HR1.out x13_2 p101 q101; cases e101; replace hx101_0 := (HB.out.cell (World.block_lt_of_cell? w _ hx101_0)).trans hx101_0; replace hx101_1 := (HB.out.cell (World.block_lt_of_cell? w _ hx101_1)).trans hx101_1; replace p101 := eq_true p101; replace q101 := eq_true q101; (go_wp2_with (first | ((with_reducible refine gate_dst (N := 7) rfl ?_); refine box_event ?hg (N := 7) ?hd (cs := #[.int .i64 0, .int .i64 0]) (t := 76) ?hr ?_; (case hd => rfl); (case hg => rfl); (case hr => exact zz13); intro gb102 hg w14 hbox hb; have n_ := zA4 (below_step zz1 hb) hbox (zz12 : w.heap.size ≤ gb102) (zz12 : w.heap.size ≤ gb102); clear HB; obtain ⟨HB, BK102, GW102, GE102⟩ := n_; clear hb hbox hg; have hcz15_0 := zC20 BK102; have hcz15_1 := zC21 BK102; have hfz15_0 := blk_frozen BK102.out 0; have hfz15_1 := blk_frozen BK102.out 1))); (repeat (go_quiet (first | ((with_reducible refine gate_dst (N := 7) rfl ?_); refine box_event ?hg (N := 7) ?hd (cs := #[.int .i64 0, .int .i64 0]) (t := 76) ?hr ?_; (case hd => rfl); (case hg => rfl); (case hr => exact zz13); intro gb102 hg w14 hbox hb; have n_ := zA4 (below_step zz1 hb) hbox (zz12 : w.heap.size ≤ gb102) (zz12 : w.heap.size ≤ gb102); clear HB; obtain ⟨HB, BK102, GW102, GE102⟩ := n_; clear hb hbox hg; have hcz15_0 := zC20 BK102; have hcz15_1 := zC21 BK102; have hfz15_0 := blk_frozen BK102.out 0; have hfz15_1 := blk_frozen BK102.out 1)); try go_wp2_with (first | ((with_reducible refine gate_dst (N := 7) rfl ?_); refine box_event ?hg (N := 7) ?hd (cs := #[.int .i64 0, .int .i64 0]) (t := 76) ?hr ?_; (case hd => rfl); (case hg => rfl); (case hr => exact zz13); intro gb102 hg w14 hbox hb; have n_ := zA4 (below_step zz1 hb) hbox (zz12 : w.heap.size ≤ gb102) (zz12 : w.heap.size ≤ gb102); clear HB; obtain ⟨HB, BK102, GW102, GE102⟩ := n_; clear hb hbox hg; have hcz15_0 := zC20 BK102; have hcz15_1 := zC21 BK102; have hfz15_0 := blk_frozen BK102.out 0; have hfz15_1 := blk_frozen BK102.out 1)))); go_roundg k2; (case measure => have := HK1.out; have := HK2.out; omega); case rel => exact ⟨(Go.bits .or .i64 x5_2 (Go.bits .or .i64 (ji11) (ji13))), (wrap64 (x13_2 + 1)), (by first | rfl | (simp; done) | (simp only [← hji11, ← hji13] <;> (first | rfl | simp)) | (simp [*]; done)), zz5, H', ⟨zz37⟩, ⟨zz51⟩⟩
     rw [if_neg c9] at H; have c9b0 : ((Go.bits .and .i64 (ji8) 1) == 1) = false := beq_eq_false_iff_ne.mpr c9; have c9b1 : ((Go.bits .and .i64 (ji8) 1) != 1) = true := bne_iff_ne.mpr c9; by_cases c16 : 0 ≤ ((rd_T76 l1 x13_2).f1); rotate_left
     ·rw [if_neg c16] at H; exact absurd H (by simp)
     rw [if_pos c16] at H; have c16b0 := eq_true c16; have c16b1 : decide (0 ≤ ((rd_T76 l1 x13_2).f1)) = true := decide_eq_true c16; clear c16; obtain ⟨ji17, hji17⟩ : ∃ j_ : Int, (shr .i64 x5_2 ((rd_T76 l1 x13_2).f1)) = j_ := ⟨_, rfl⟩; (replace H : (if (Go.bits .and .i64 (ji17) 1) = 1 then (impl_connected.l1 k2 a0 l1 (Go.bits .or .i64 x5_2 (Go.bits .or .i64 (shl .i64 1 ((rd_T76 l1 x13_2).f0)) (shl .i64 1 ((rd_T76 l1 x13_2).f1)))) a0 x9_1 l1 (l1.length : Int) (wrap64 (x13_2 + 1))) else (impl_connected.l1 k2 a0 l1 x5_2 a0 x9_1 l1 (l1.length : Int) (wrap64 (x13_2 + 1)))) = some r := by first | (rw [hji17] at H; exact H) | (simp only [hji17] at H ⊢; exact H)); have hji17_ : (x5_2 / 2 ^ min ((rd_T76 l1 x13_2).f1).toNat 64) = ji17 := hji17; have hji17z : ((rd_T76 l1 x13_2).f1) ≤ 64 → (x5_2 / 2 ^ ((rd_T76 l1 x13_2).f1).toNat) = ji17 := shr_small hji17; by_cases c18 : (Go.bits .and .i64 (ji17) 1) = 1; rotate_left
     ·rw [if_neg c18] at H; have c18b0 : ((Go.bits .and .i64 (ji17) 1) == 1) = false := beq_eq_false_iff_ne.mpr c18; have c18b1 : ((Go.bits .and .i64 (ji17) 1) != 1) = true := bne_iff_ne.mpr c18; have H' := Aside0.mk H; clear H; have p101 : 0 ≤ (x13_2 : Int) := of_decide_eq_true zz4; have q101 : x13_2 < (l1.length : Int) := of_decide_eq_true zz4; obtain ⟨ad101, e101, hx101_0, hx101_1⟩ := at_T76 HR1.out x13_2 p101 q101; cases e101; replace hx101_0 := (HB.out.cell (World.block_lt_of_cell? w _ hx101_0)).trans hx101_0; replace hx101_1 := (HB.out.cell (World.block_lt_of_cell? w _ hx101_1)).trans hx101_1; replace p101 := eq_true p101; replace q101 := eq_true q101; (go_wp2_with (first | ((with_reducible refine gate_dst (N := 7) rfl ?_); refine box_event ?hg (N := 7) ?hd (cs := #[.int .i64 0, .int .i64 0]) (t := 76) ?hr ?_; (case hd => rfl); (case hg => rfl); (case hr => exact zz13); intro gb102 hg w25 hbox hb; have n_ := zA4 (below_step zz1 hb) hbox (zz12 : w.heap.size ≤ gb102) (zz12 : w.heap.size ≤ gb102); clear HB; obtain ⟨HB, BK102, GW102, GE102⟩ := n_; clear hb hbox hg; have hcz26_0 := zC20 BK102; have hcz26_1 := zC21 BK102; have hfz26_0 := blk_frozen BK102.out 0; have hfz26_1 := blk_frozen BK102.out 1))); (repeat (go_quiet (first | ((with_reducible refine gate_dst (N := 7) rfl ?_); refine box_event ?hg (N := 7) ?hd (cs := #[.int .i64 0, .int .i64 0]) (t := 76) ?hr ?_; (case hd => rfl); (case hg => rfl); (case hr => exact zz13); intro gb102 hg w25 hbox hb; have n_ := zA4 (below_step zz1 hb) hbox (zz12 : w.heap.size ≤ gb102) (zz12 : w.heap.size ≤ gb102); clear HB; obtain ⟨HB, BK102, GW102, GE102⟩ := n_; clear hb hbox hg; have hcz26_0 := zC20 BK102; have hcz26_1 := zC21 BK102; have hfz26_0 := blk_frozen BK102.out 0; have hfz26_1 := blk_frozen BK102.out 1)); try go_wp2_with (first | ((with_reducible refine gate_dst (N := 7) rfl ?_); refine box_event ?hg (N := 7) ?hd (cs := #[.int .i64 0, .int .i64 0]) (t := 76) ?hr ?_; (case hd => rfl); (case hg => rfl); (case hr => exact zz13); intro gb102 hg w25 hbox hb; have n_ := zA4 (below_step zz1 hb) hbox (zz12 : w.heap.size ≤ gb102) (zz12 : w.heap.size ≤ gb102); clear HB; obtain ⟨HB, BK102, GW102, GE102⟩ := n_; clear hb hbox hg; have hcz26_0 := zC20 BK102; have hcz26_1 := zC21 BK102; have hfz26_0 := blk_frozen BK102.out 0; have hfz26_1 := blk_frozen BK102.out 1)))); go_roundg k2; (case measure => have := HK1.out; have := HK2.out; omega); case rel => exact ⟨(x5_2), (wrap64 (x13_2 + 1)), zz5, zz5, H', ⟨zz37⟩, ⟨zz51⟩⟩
     rw [if_pos c18] at H; have c18b0 : ((Go.bits .and .i64 (ji17) 1) == 1) = true := beq_iff_eq.mpr c18; have c18b1 : ((Go.bits .and .i64 (ji17) 1) != 1) = false := bne_eq_false_iff_eq.mpr c18; clear c18; have c19b0 := eq_true (of_decide_eq_true zz4 : 0 ≤ ((rd_T76 l1 x13_2).f0)); obtain ⟨ji20, hji20⟩ : ∃ j_ : Int, (shl .i64 1 ((rd_T76 l1 x13_2).f0)) = j_ := ⟨_, rfl⟩; (replace H : (impl_connected.l1 k2 a0 l1 (Go.bits .or .i64 x5_2 (Go.bits .or .i64 (ji20) (shl .i64 1 ((rd_T76 l1 x13_2).f1)))) a0 x9_1 l1 (l1.length : Int) (wrap64 (x13_2 + 1))) = some r := by first | (rw [hji20] at H; exact H) | (simp only [hji20] at H ⊢; exact H)); have hji20_ : (IntKind.i64.wrap (1 * 2 ^ min ((rd_T76 l1 x13_2).f0).toNat 64)) = ji20 := hji20; have hji20z : ((rd_T76 l1 x13_2).f0) ≤ 64 → (IntKind.i64.wrap (1 * 2 ^ ((rd_T76 l1 x13_2).f0).toNat)) = ji20 := shl_small hji20; (have hji20u : (IntKind.i64.wrap (2 ^ min ((rd_T76 l1 x13_2).f0).toNat 64)) = ji20 := by have h_ := hji20_; rw [Int.one_mul] at h_; exact h_); (have hji20v : ((rd_T76 l1 x13_2).f0) ≤ 64 → (IntKind.i64.wrap (2 ^ ((rd_T76 l1 x13_2).f0).toNat)) = ji20 := fun hle_ => by have h_ := hji20z hle_; rw [Int.one_mul] at h_; exact h_); have hji20y : (wrap64 (1 * 2 ^ min ((rd_T76 l1 x13_2).f0).toNat 64)) = ji20 := (i64_w _).symm.trans hji20_; (have hji20x : ((rd_T76 l1 x13_2).f0) ≤ 64 → (wrap64 (1 * 2 ^ ((rd_T76 l1 x13_2).f0).toNat)) = ji20 := fun h_ => (i64_w _).symm.trans (hji20z h_)); have c21b0 := eq_true (of_decide_eq_true zz4 : 0 ≤ ((rd_T76 l1 x13_2).f1)); obtain ⟨ji22, hji22⟩ : ∃ j_ : Int, (shl .i64 1 ((rd_T76 l1 x13_2).f1)) = j_ := ⟨_, rfl⟩; (replace H : (impl_connected.l1 k2 a0 l1 (Go.bits .or .i64 x5_2 (Go.bits .or .i64 (ji20) (ji22))) a0 x9_1 l1 (l1.length : Int) (wrap64 (x13_2 + 1))) = some r := by first | (rw [hji22] at H; exact H) | (simp only [hji22] at H ⊢; exact H)); have hji22_ : (IntKind.i64.wrap (1 * 2 ^ min ((rd_T76 l1 x13_2).f1).toNat 64)) = ji22 := hji22; have hji22z : ((rd_T76 l1 x13_2).f1) ≤ 64 → (IntKind.i64.wrap (1 * 2 ^ ((rd_T76 l1 x13_2).f1).toNat)) = ji22 := shl_small hji22; (have hji22u : (IntKind.i64.wrap (2 ^ min ((rd_T76 l1 x13_2).f1).toNat 64)) = ji22 := by have h_ := hji22_; rw [Int.one_mul] at h_; exact h_); (have hji22v : ((rd_T76 l1 x13_2).f1) ≤ 64 → (IntKind.i64.wrap (2 ^ ((rd_T76 l1 x13_2).f1).toNat)) = ji22 := fun hle_ => by have h_ := hji22z hle_; rw [Int.one_mul] at h_; exact h_); have hji22y : (wrap64 (1 * 2 ^ min ((rd_T76 l1 x13_2).f1).toNat 64)) = ji22 := (i64_w _).symm.trans hji22_; (have hji22x : ((rd_T76 l1 x13_2).f1) ≤ 64 → (wrap64 (1 * 2 ^ ((rd_T76 l1 x13_2).f1).toNat)) = ji22 := fun h_ => (i64_w _).symm.trans (hji22z h_)); have H' := Aside0.mk H; clear H; have p101 : 0 ≤ (x13_2 : Int) := of_decide_eq_true zz4; have q101 : x13_2 < (l1.length : Int) := of_decide_eq_true zz4; obtain ⟨ad101, e101, hx101_0, hx101_1⟩ := at_T76 HR1.out x13_2 p101 q101; cases e101; replace hx101_0 := (HB.out.cell (World.block_lt_of_cell? w _ hx101_0)).trans hx101_0; replace hx101_1 := (HB.out.cell (World.block_lt_of_cell? w _ hx101_1)).trans hx101_1; replace p101 := eq_true p101; replace q101 := eq_true q101; (go_wp2_with (first | ((with_reducible refine gate_dst (N := 7) rfl ?_); refine box_event ?hg (N := 7) ?hd (cs := #[.int .i64 0, .int .i64 0]) (t := 76) ?hr ?_; (case hd => rfl); (case hg => rfl); (case hr => exact zz13); intro gb102 hg w23 hbox hb; have n_ := zA4 (below_step zz1 hb) hbox (zz12 : w.heap.size ≤ gb102) (zz12 : w.heap.size ≤ gb102); clear HB; obtain ⟨HB, BK102, GW102, GE102⟩ := n_; clear hb hbox hg; have hcz24_0 := zC20 BK102; have hcz24_1 := zC21 BK102; have hfz24_0 := blk_frozen BK102.out 0; have hfz24_1 := blk_frozen BK102.out 1))); (repeat (go_quiet (first | ((with_reducible refine gate_dst (N := 7) rfl ?_); refine box_event ?hg (N := 7) ?hd (cs := #[.int .i64 0, .int .i64 0]) (t := 76) ?hr ?_; (case hd => rfl); (case hg => rfl); (case hr => exact zz13); intro gb102 hg w23 hbox hb; have n_ := zA4 (below_step zz1 hb) hbox (zz12 : w.heap.size ≤ gb102) (zz12 : w.heap.size ≤ gb102); clear HB; obtain ⟨HB, BK102, GW102, GE102⟩ := n_; clear hb hbox hg; have hcz24_0 := zC20 BK102; have hcz24_1 := zC21 BK102; have hfz24_0 := blk_frozen BK102.out 0; have hfz24_1 := blk_frozen BK102.out 1)); try go_wp2_with (first | ((with_reducible refine gate_dst (N := 7) rfl ?_); refine box_event ?hg (N := 7) ?hd (cs := #[.int .i64 0, .int .i64 0]) (t := 76) ?hr ?_; (case hd => rfl); (case hg => rfl); (case hr => exact zz13); intro gb102 hg w23 hbox hb; have n_ := zA4 (below_step zz1 hb) hbox (zz12 : w.heap.size ≤ gb102) (zz12 : w.heap.size ≤ gb102); clear HB; obtain ⟨HB, BK102, GW102, GE102⟩ := n_; clear hb hbox hg; have hcz24_0 := zC20 BK102; have hcz24_1 := zC21 BK102; have hfz24_0 := blk_frozen BK102.out 0; have hfz24_1 := blk_frozen BK102.out 1)))); go_roundg k2; (case measure => have := HK1.out; have := HK2.out; omega); case rel => exact ⟨(Go.bits .or .i64 x5_2 (Go.bits .or .i64 (ji20) (ji22))), (wrap64 (x13_2 + 1)), (by first | rfl | (simp; done) | (simp only [← hji20, ← hji22] <;> (first | rfl | simp)) | (simp [*]; done)), zz5, H', ⟨zz37⟩, ⟨zz51⟩⟩
end Go.Proofs.Ytkcbinohpdhbgaa.P
end

section
namespace Go.Proofs.Ytkcbinohpdhbgaa.Cf
set_option linter.unusedVariables false
set_option linter.unusedSimpArgs false
open Go.RowKit Go.Proofs.YtkcbinohpdhbgaaW.PrintWords
/-- With enough rounds the answer is there, and it has the property. -/
def Ep {α : Type} (g : Nat → Option α) (Q : α → Prop) : Prop := ∃ r, Q r ∧ ∃ K, ∀ k, K ≤ k → g k = some r
theorem Ep.now {α : Type} {Q : α → Prop} {r : α} (h : Q r) : Ep (fun _ => some r) Q := ⟨r, h, 0, fun _ _ => rfl⟩
theorem Ep.mono {α : Type} {g : Nat → Option α} {P Q : α → Prop} (h : Ep g P) (hpq : ∀ r, P r → Q r) : Ep g Q := by
  obtain ⟨r, hr, K, hK⟩ := h
  exact ⟨r, hpq r hr, K, hK⟩
theorem Ep.step {α : Type} {g f : Nat → Option α} {Q : α → Prop} (h : ∀ k, g (k + 1) = f k) (k : Ep f Q) : Ep g Q := by
  obtain ⟨r, hr, K, hK⟩ := k
  refine ⟨r, hr, K + 1, fun k hk => ?_⟩
  obtain ⟨m, rfl⟩ : ∃ m, k = m + 1 := ⟨k - 1, by omega⟩
  rw [h m]
  exact hK m (by omega)
theorem Ep.up {α : Type} {g : Nat → Option α} {Q : α → Prop} (h : Ep (fun k => g (k + 1)) Q) : Ep g Q := Ep.step (fun _ => rfl) h
theorem Ep.congr {α : Type} {g f : Nat → Option α} {Q : α → Prop} (h : ∀ k, g k = f k) (k : Ep f Q) : Ep g Q := by
  obtain ⟨r, hr, K, hK⟩ := k
  exact ⟨r, hr, K, fun k hk => (h k).trans (hK k hk)⟩
theorem Ep.bind {α β : Type} {g : Nat → Option α} {f : Nat → α → Option β} {P : α → Prop} {Q : β → Prop} (h : Ep g P) (k : ∀ a, P a → Ep (fun n => f n a) Q) : Ep (fun n => (g n).bind (f n)) Q := by
  obtain ⟨r, hr, K, hK⟩ := h
  obtain ⟨q, hq, L, hL⟩ := k r hr
  refine ⟨q, hq, max K L, fun k hk => ?_⟩
  show (g k).bind (f k) = some q
  rw [hK k (by omega)]
  exact hL k (by omega)
/-- A call without rounds. -/
theorem Ep.bind0 {α β : Type} {g : Option α} {f : Nat → α → Option β} {a : α} {Q : β → Prop} (h : g = some a) (k : Ep (fun n => f n a) Q) : Ep (fun n => g.bind (f n)) Q := by
  subst h
  exact k
theorem Ep.ite {α : Type} {c : Prop} [Decidable c] {f g : Nat → Option α} {Q : α → Prop} (h : c → Ep f Q) (k : ¬ c → Ep g Q) : Ep (fun n => if c then f n else g n) Q := by
  by_cases hc : c
  · simp only [hc, if_true]
    exact h hc
  · simp only [hc, if_false]
    exact k hc
theorem Ep.pos {α : Type} {c : Prop} [Decidable c] {f g : Nat → Option α} {Q : α → Prop} (hc : c) (h : Ep f Q) : Ep (fun n => if c then f n else g n) Q := Ep.ite (fun _ => h) (fun k => absurd hc k)
theorem Ep.neg {α : Type} {c : Prop} [Decidable c] {f g : Nat → Option α} {Q : α → Prop} (hc : ¬ c) (h : Ep g Q) : Ep (fun n => if c then f n else g n) Q := Ep.ite (fun k => absurd k hc) (fun _ => h)
theorem Ep.rounds {α : Type} {g : Nat → Option α} {r : α} (h : Ep g (· = r)) : ∃ k, g k = some r := by
  obtain ⟨q, rfl, K, hK⟩ := h
  exact ⟨K, hK K (Nat.le_refl _)⟩
/-- A number of a kind. -/
def Wf (k : IntKind) (x : Int) : Prop := (Lit.int k x).wf = true
theorem Wf.i64 {x : Int} (h : Wf .i64 x) : -9223372036854775808 ≤ x ∧ x ≤ 9223372036854775807 := by
  simpa [Wf, Lit.wf, IntKind.min, IntKind.max, IntKind.signed, IntKind.bits] using h
/-- A slice: its length is a number, and so on for its elements. -/
def SL {α : Type} (Q : α → Prop) (l : List α) : Prop := l.length ≤ 9223372036854775807 ∧ ∀ x ∈ l, Q x
theorem wrap_id {x : Int} (h0 : -9223372036854775808 ≤ x) (h1 : x ≤ 9223372036854775807) : wrap64 x = x := by
  unfold wrap64
  omega
theorem rd_nat (xs : List Int) (i : Nat) : rd xs (i : Int) = xs.getD i 0 := by simp [rd]
theorem rd_get {xs : List Int} {i : Nat} (h : i < xs.length) : rd xs (i : Int) = xs[i] := by simp [rd, List.getD, h]
end Go.Proofs.Ytkcbinohpdhbgaa.Cf
end

section
namespace Go.Proofs.Ytkcbinohpdhbgaa.Cf
set_option linter.unusedVariables false
set_option linter.unusedSimpArgs false
/-- Two vertices with an edge between them. -/
def Adj (es : List E) (a b : Int) : Prop := ∃ e ∈ es, (e.f0 = a ∧ e.f1 = b) ∨ (e.f0 = b ∧ e.f1 = a)
theorem Adj.symm {es : List E} {a b : Int} (h : Adj es a b) : Adj es b a := by
  obtain ⟨e, he, h⟩ := h
  exact ⟨e, he, h.symm⟩
/-- b can be reached from a. -/
inductive Conn (es : List E) (a : Int) : Int → Prop
  | refl : Conn es a a
  | tail {b c : Int} : Conn es a b → Adj es b c → Conn es a c
theorem Conn.trans {es : List E} {a b c : Int} (h : Conn es a b) (k : Conn es b c) : Conn es a c := by
  induction k with
  | refl => exact h
  | tail _ hadj ih => exact ih.tail hadj
theorem Conn.one {es : List E} {a b : Int} (h : Adj es a b) : Conn es a b := Conn.refl.tail h
theorem Conn.symm {es : List E} {a b : Int} (h : Conn es a b) : Conn es b a := by
  induction h with
  | refl => exact .refl
  | tail _ hadj ih => exact (Conn.one hadj.symm).trans ih
/-- What is closed under the edges holds what is reached. -/
theorem Conn.closed {es : List E} {S : Int → Prop} (hS : ∀ a b, S a → Adj es a b → S b) {a b : Int} (h : Conn es a b) (ha : S a) : S b := by
  induction h with
  | refl => exact ha
  | tail _ hadj ih => exact hS _ _ ih hadj
/-- An edge between two vertices below n. -/
def EOk (n : Int) (e : E) : Prop := 0 ≤ e.f0 ∧ e.f0 < e.f1 ∧ e.f1 < n
instance decEOk (n : Int) (e : E) : Decidable (EOk n e) := by unfold EOk; infer_instance
def EsOk (n : Int) (es : List E) : Prop := 1 ≤ n ∧ n ≤ 6 ∧ es.length ≤ 12 ∧ ∀ e ∈ es, EOk n e
instance decEsOk (n : Int) (es : List E) : Decidable (EsOk n es) := by unfold EsOk; infer_instance
def leE (a b : E) : Prop := a.f0 < b.f0 ∨ (a.f0 = b.f0 ∧ a.f1 ≤ b.f1)
instance decLeE (a b : E) : Decidable (leE a b) := by unfold leE; infer_instance
def Sorted (es : List E) : Prop := ∀ i, (h : i + 1 < es.length) → leE es[i] es[i + 1]
def Joined (n : Int) (es : List E) : Prop := ∀ v, 0 ≤ v → v < n → Conn es 0 v
/-- A valid graph. -/
def GOk (n : Int) (es : List E) : Prop := EsOk n es ∧ Sorted es ∧ Joined n es
instance decSorted (es : List E) : Decidable (Sorted es) := decidable_of_iff (∀ i, (h : i < es.length - 1) → leE (es[i]'(by omega)) (es[i + 1]'(by omega))) ⟨fun h i hi => h i (by omega), fun h i hi => h i (by omega)⟩
theorem EsOk.adj {n : Int} {es : List E} (h : ∀ e ∈ es, EOk n e) {a b : Int} (hab : Adj es a b) : 0 ≤ b ∧ b < n := by
  obtain ⟨e, he, hx⟩ := hab
  have := h e he
  unfold EOk at this
  omega
def stepM (m : Nat) (e : E) : Nat := if m.testBit e.f0.toNat || m.testBit e.f1.toNat then m ||| (2 ^ e.f0.toNat ||| 2 ^ e.f1.toNat) else m
def roundM (es : List E) (m : Nat) : Nat := es.foldl stepM m
def timesM (es : List E) : Nat → Nat → Nat
  | 0, m => m
  | k + 1, m => timesM es k (roundM es m)
theorem testBit_step {m : Nat} {e : E} {i : Nat} : (stepM m e).testBit i = (m.testBit i || ((m.testBit e.f0.toNat || m.testBit e.f1.toNat) && (i == e.f0.toNat || i == e.f1.toNat))) := by
  unfold stepM
  by_cases h : (m.testBit e.f0.toNat || m.testBit e.f1.toNat) = true
  · rw [if_pos h, h]
    simp only [Nat.testBit_or, Nat.testBit_two_pow, Bool.true_and]
    congr 1
    rw [Bool.eq_iff_iff]
    simp only [Bool.or_eq_true, decide_eq_true_eq, beq_iff_eq]
    omega
  · rw [if_neg h]
    simp only [Bool.not_eq_true] at h
    rw [h]
    simp
theorem step_mono {m : Nat} {e : E} {i : Nat} (h : m.testBit i = true) : (stepM m e).testBit i = true := by rw [testBit_step, h]; rfl
theorem round_mono (es : List E) : ∀ {m : Nat} {i : Nat}, m.testBit i = true → (roundM es m).testBit i = true := by
  induction es with
  | nil => intro m i h; exact h
  | cons e r ih => intro m i h; exact ih (step_mono h)
theorem times_mono (es : List E) : ∀ (k : Nat) {m : Nat} {i : Nat}, m.testBit i = true → (timesM es k m).testBit i = true
  | 0, _, _, h => h
  | k + 1, _, _, h => times_mono es k (round_mono es h)
/-- Every bit is of a vertex that can be reached. -/
def MOk (es : List E) (n : Int) (m : Nat) : Prop := ∀ i : Nat, m.testBit i = true → (i : Int) < n ∧ Conn es 0 i
theorem step_ok {es : List E} {n : Int} {m : Nat} {e : E} (he : e ∈ es) (hk : EOk n e) (h : MOk es n m) : MOk es n (stepM m e) := by
  intro i hi
  rw [testBit_step] at hi
  simp only [Bool.or_eq_true, Bool.and_eq_true, beq_iff_eq] at hi
  unfold EOk at hk
  have e0 : ((e.f0.toNat : Nat) : Int) = e.f0 := by omega
  have e1 : ((e.f1.toNat : Nat) : Int) = e.f1 := by omega
  rcases hi with hi | ⟨hm, hi⟩
  · exact h i hi
  · have key : Conn es 0 e.f0 ∧ Conn es 0 e.f1 := by
      rcases hm with hm | hm
      · have := (h _ hm).2
        rw [e0] at this
        exact ⟨this, this.tail ⟨e, he, .inl ⟨rfl, rfl⟩⟩⟩
      · have := (h _ hm).2
        rw [e1] at this
        exact ⟨this.tail ⟨e, he, .inr ⟨rfl, rfl⟩⟩, this⟩
    rcases hi with hi | hi
    · subst hi
      rw [e0]
      exact ⟨by omega, key.1⟩
    · subst hi
      rw [e1]
      exact ⟨by omega, key.2⟩
theorem round_ok {es : List E} {n : Int} (hes : ∀ e ∈ es, EOk n e) : ∀ (fs : List E), (∀ e ∈ fs, e ∈ es) → ∀ {m : Nat}, MOk es n m → MOk es n (roundM fs m) := by
  intro fs
  induction fs with
  | nil => intro _ m h; exact h
  | cons e r ih =>
    intro hs m h
    have he := hs e (List.mem_cons_self)
    exact ih (fun x hx => hs x (List.mem_cons_of_mem _ hx)) (step_ok he (hes e he) h)
theorem times_ok {es : List E} {n : Int} (hes : ∀ e ∈ es, EOk n e) : ∀ (k : Nat) {m : Nat}, MOk es n m → MOk es n (timesM es k m)
  | 0, _, h => h
  | k + 1, _, h => times_ok hes k (round_ok hes es (fun _ h => h) h)
/-- How many of the first n bits are set. -/
def cnt (n : Nat) (m : Nat) : Nat := (List.range n).countP (m.testBit ·)
theorem cnt_le (n m : Nat) : cnt n m ≤ n := by
  unfold cnt
  have := List.countP_le_length (p := fun i => m.testBit i) (l := List.range n)
  simpa using this
theorem countP_lt {α : Type} {p q : α → Bool} : ∀ {l : List α}, (∀ x ∈ l, p x = true → q x = true) → (∃ x ∈ l, p x = false ∧ q x = true) → l.countP p < l.countP q
  | [], _, h => by obtain ⟨x, hx, _⟩ := h; cases hx
  | y :: r, hpq, h => by
    have hle : r.countP p ≤ r.countP q := List.countP_mono_left (fun x hx => hpq x (List.mem_cons_of_mem _ hx))
    simp only [List.countP_cons]
    by_cases hy : p y = false ∧ q y = true
    · rw [hy.1, hy.2]
      simp
      omega
    · have hr : r.countP p < r.countP q := by
        apply countP_lt (fun x hx => hpq x (List.mem_cons_of_mem _ hx))
        obtain ⟨x, hx, h1⟩ := h
        rcases List.mem_cons.1 hx with rfl | hx
        · exact absurd h1 hy
        · exact ⟨x, hx, h1⟩
      have h2 := hpq y List.mem_cons_self
      by_cases hp : p y = true
      · rw [hp, h2 hp]
        simp
        omega
      · simp only [hp, if_false, Bool.not_eq_true] at *
        simp
        split <;> omega
theorem cnt_lt {n m m' : Nat} (h : ∀ i, m.testBit i = true → m'.testBit i = true) (hx : ∃ i, i < n ∧ m.testBit i = false ∧ m'.testBit i = true) : cnt n m < cnt n m' := by
  obtain ⟨i, hi, h1⟩ := hx
  exact countP_lt (fun x _ => h x) ⟨i, List.mem_range.2 hi, h1⟩
/-- A round that adds nothing has a closed set. -/
theorem round_fix_step {es : List E} : ∀ (fs : List E) {m : Nat}, (∀ i, (roundM fs m).testBit i = true → m.testBit i = true) → ∀ e ∈ fs, m.testBit e.f0.toNat = m.testBit e.f1.toNat := by
  intro fs
  induction fs with
  | nil => intro m _ e he; cases he
  | cons a r ih =>
    intro m h e he
    have hst : ∀ i, (stepM m a).testBit i = true → m.testBit i = true := fun i hi => h i (round_mono r hi)
    have heq : stepM m a = m := by
      apply Nat.eq_of_testBit_eq
      intro i
      rw [Bool.eq_iff_iff]
      exact ⟨hst i, step_mono⟩
    rcases List.mem_cons.1 he with rfl | he
    · have h0 := hst e.f0.toNat
      have h1 := hst e.f1.toNat
      rw [testBit_step] at h0 h1
      simp only [beq_self_eq_true, Bool.true_or, Bool.or_true, Bool.and_true, Bool.or_eq_true] at h0 h1
      rw [Bool.eq_iff_iff]
      exact ⟨fun hx => h1 (.inr (.inl hx)), fun hx => h0 (.inr (.inr hx))⟩
    · have : roundM (a :: r) m = roundM r m := by show roundM r (stepM m a) = _; rw [heq]
      exact ih (fun i hi => h i (by rw [this]; exact hi)) e he
theorem closed_of_fix {es : List E} {n : Int} (hes : ∀ e ∈ es, EOk n e) {m : Nat} (h : ∀ i, (roundM es m).testBit i = true → m.testBit i = true) (h0 : m.testBit 0 = true) (i : Nat) (hi : Conn es 0 i) : m.testBit i = true := by
  have hf := round_fix_step (es := es) es h
  have key : ∀ v : Int, Conn es 0 v → 0 ≤ v ∧ m.testBit v.toNat = true := by
    intro v hv
    refine hv.closed (S := fun v => 0 ≤ v ∧ m.testBit v.toNat = true) ?_ ⟨by omega, h0⟩
    rintro a b ⟨ha, hb⟩ ⟨e, he, hx⟩
    have hk := hes e he
    unfold EOk at hk
    rcases hx with ⟨h1, h2⟩ | ⟨h1, h2⟩
    · subst h1; subst h2
      exact ⟨by omega, by rw [← hf e he]; exact hb⟩
    · subst h1; subst h2
      exact ⟨by omega, by rw [hf e he]; exact hb⟩
  have := (key i hi).2
  simpa using this
theorem times_grow {es : List E} {n : Nat} (hes : ∀ e ∈ es, EOk n e) : ∀ (k : Nat) {m : Nat}, MOk es n m → m.testBit 0 = true →
    (∀ i : Nat, Conn es 0 i → (timesM es k m).testBit i = true) ∨ k + cnt n m ≤ cnt n (timesM es k m)
  | 0, m, _, _ => .inr (by simp [timesM])
  | k + 1, m, hm, h0 => by
    by_cases hfix : ∀ i, (roundM es m).testBit i = true → m.testBit i = true
    · left
      intro i hi
      exact times_mono es (k + 1) (closed_of_fix hes hfix h0 i hi)
    · obtain ⟨i, hi⟩ := Classical.not_forall.1 hfix
      have hi1 : (roundM es m).testBit i = true := Classical.byContradiction fun hc => hi (fun x => absurd x hc)
      have hi2 : m.testBit i = false := by
        cases hb : m.testBit i with
        | false => rfl
        | true => exact absurd (fun _ => hb) hi
      have hok := round_ok hes es (fun _ h => h) hm
      have hlt : cnt n m < cnt n (roundM es m) := cnt_lt (fun j hj => round_mono es hj) ⟨i, by have := (hok i hi1).1; omega, hi2, hi1⟩
      rcases times_grow hes k hok (round_mono es h0) with h | h
      · exact .inl h
      · right
        show k + 1 + _ ≤ cnt n (timesM es k (roundM es m))
        omega
theorem cnt_full {n m : Nat} (h : n ≤ cnt n m) : ∀ i, i < n → m.testBit i = true := by
  intro i hi
  apply Classical.byContradiction
  intro hc
  have hc' : m.testBit i = false := by simpa using hc
  have : cnt n m < cnt n (2 ^ n - 1) := by
    refine countP_lt (fun x hx _ => ?_) ⟨i, List.mem_range.2 hi, hc', ?_⟩
    · rw [Nat.testBit_two_pow_sub_one]; simpa using hx
    · rw [Nat.testBit_two_pow_sub_one]; simpa using hi
  have := cnt_le n (2 ^ n - 1)
  omega
/-- The set of bits tells whether all are joined. -/
theorem times_joined {es : List E} {n : Nat} (h1 : 1 ≤ n) (hes : ∀ e ∈ es, EOk n e) : timesM es n 1 = 2 ^ n - 1 ↔ Joined n es := by
  have hm1 : MOk es n 1 := by
    intro i hi
    have : i = 0 := by simpa [Nat.testBit_one_eq_true_iff_self_eq_zero] using hi
    subst this
    exact ⟨by omega, .refl⟩
  have h0 : (1 : Nat).testBit 0 = true := by decide
  have hok := times_ok hes n hm1
  constructor
  · intro h v hv0 hvn
    have := hok v.toNat (by rw [h, Nat.testBit_two_pow_sub_one]; simp; omega)
    have e : ((v.toNat : Nat) : Int) = v := by omega
    rw [e] at this
    exact this.2
  · intro hj
    have hall : ∀ i, i < n → (timesM es n 1).testBit i = true := by
      rcases times_grow hes n hm1 h0 with h | h
      · exact fun i hi => h i (hj i (by omega) (by omega))
      · have : n ≤ cnt n (timesM es n 1) := by omega
        exact cnt_full this
    apply Nat.eq_of_testBit_eq
    intro i
    rw [Nat.testBit_two_pow_sub_one, Bool.eq_iff_iff]
    simp only [decide_eq_true_eq]
    refine ⟨fun h => ?_, fun h => hall i h⟩
    have := (hok i h).1
    omega
/-- Whether a graph is valid. -/
def gOk (n : Int) (es : List E) : Bool := decide (EsOk n es) && (decide (Sorted es) && decide (timesM es n.toNat 1 = 2 ^ n.toNat - 1))
theorem gOk_iff {n : Int} {es : List E} : gOk n es = true ↔ GOk n es := by
  unfold gOk GOk
  simp only [Bool.and_eq_true, decide_eq_true_eq]
  constructor
  · rintro ⟨h1, h2, h3⟩
    have h := h1
    unfold EsOk at h
    obtain ⟨m, rfl⟩ := Int.eq_ofNat_of_zero_le (a := n) (by omega)
    exact ⟨h1, h2, (times_joined (n := m) (by omega) h.2.2.2).1 h3⟩
  · rintro ⟨h1, h2, h3⟩
    have h := h1
    unfold EsOk at h
    obtain ⟨m, rfl⟩ := Int.eq_ofNat_of_zero_le (a := n) (by omega)
    exact ⟨h1, h2, (times_joined (n := m) (by omega) h.2.2.2).2 h3⟩
/-- What a queue holds: vertices that can be reached, each once. -/
def QOk (es : List E) (n : Int) (q : List Int) : Prop := q.Nodup ∧ ∀ v ∈ q, (0 ≤ v ∧ v < n) ∧ Conn es 0 v
theorem nodup_len : ∀ (n : Nat) (l : List Int), l.Nodup → (∀ v ∈ l, 0 ≤ v ∧ v < n) → l.length ≤ n
  | 0, l, _, hv => by
    cases l with
    | nil => exact Nat.le_refl _
    | cons a r => have := hv a List.mem_cons_self; omega
  | n + 1, l, hl, hv => by
    by_cases hm : (n : Int) ∈ l
    · have h1 := nodup_len n (l.erase n) (hl.erase _) (fun v hx => by
        have h2 := (hl.mem_erase_iff).1 hx
        have := hv v h2.2
        have := h2.1
        omega)
      rw [List.length_erase_of_mem hm] at h1
      omega
    · have := nodup_len n l hl (fun v hx => by
        have := hv v hx
        have : v ≠ n := by rintro rfl; exact hm hx
        omega)
      omega
theorem len_nodup : ∀ (n : Nat) (l : List Int), (∀ i : Nat, i < n → (i : Int) ∈ l) → n ≤ l.length
  | 0, _, _ => Nat.zero_le _
  | n + 1, l, h => by
    have hm := h n (by omega)
    have := len_nodup n (l.erase n) (fun i hi => (List.mem_erase_of_ne (by omega)).2 (h i (by omega)))
    rw [List.length_erase_of_mem hm] at this
    have : 0 < l.length := List.length_pos_of_mem hm
    omega
/-- A queue that is closed holds what can be reached: it has n vertices just if all are joined. -/
theorem queue_joined {es : List E} {n : Nat} (h1 : 1 ≤ n) {q : List Int} (hq : QOk es n q) (h0 : (0 : Int) ∈ q) (hc : ∀ a ∈ q, ∀ b, Adj es a b → b ∈ q) : q.length = n ↔ Joined n es := by
  constructor
  · intro hl v hv0 hvn
    have : v ∈ q := by
      apply Classical.byContradiction
      intro hv
      have := nodup_len n (v :: q) (List.nodup_cons.2 ⟨hv, hq.1⟩) (fun x hx => by
        rcases List.mem_cons.1 hx with rfl | hx
        · exact ⟨hv0, hvn⟩
        · exact (hq.2 x hx).1)
      simp at this
      omega
    exact (hq.2 v this).2
  · intro hj
    have := nodup_len n q hq.1 (fun x hx => (hq.2 x hx).1)
    have := len_nodup n q (fun i hi => (hj i (by omega) (by omega)).closed (S := fun x => x ∈ q) (fun a b ha hab => hc a ha b hab) h0)
    omega
theorem QOk.push {es : List E} {n : Int} {q : List Int} (h : QOk es n q) {v : Int} (hv : v ∉ q) (h0 : 0 ≤ v ∧ v < n) (hc : Conn es 0 v) : QOk es n (q ++ [v]) := by
  refine ⟨?_, fun x hx => ?_⟩
  · rw [List.nodup_append]
    exact ⟨h.1, by simp, fun a ha b hb => by
      rw [List.mem_singleton.1 hb]
      rintro rfl
      exact hv ha⟩
  · rcases List.mem_append.1 hx with hx | hx
    · exact h.2 x hx
    · rw [List.mem_singleton.1 hx]
      exact ⟨h0, hc⟩
end Go.Proofs.Ytkcbinohpdhbgaa.Cf
end

section
namespace Go.Proofs.Ytkcbinohpdhbgaa.P
open Go.RowKit Go.Proofs.YtkcbinohpdhbgaaW.PrintWords Go.Proofs.YtkcbinohpdhbgaaW.PrintLast Go.Proofs.YtkcbinohpdhbgaaW.PrintMore
attribute [local go_sem] max2_int min2_int max_two min_two max_three min_three max_four min_four
set_option linter.unusedVariables false
set_option linter.unusedSimpArgs false
def laws_toIntS.l0 : Nat → List Int → List Int → Int → Option (List Int)
 | 0, _, _, _ => none
 | k + 1, x0, x3, x4 => if x4 < (x0.length : Int) then (if 0 ≤ x4 then (if x4 < (x3.length : Int) then (laws_toIntS.l0 k x0 (x3.set (x4 : Int).toNat (rd x0 x4)) (wrap64 (x4 + 1))) else (none)) else (none)) else (some x3)
def laws_toIntS.f (k : Nat) (l0 : List Int) : Option (List Int) := if 0 ≤ (l0.length : Int) then (if ((l0.length : Int) : Int).toNat ≤ 35184372088832 then (laws_toIntS.l0 k l0 (List.replicate ((l0.length : Int) : Int).toNat 0) 0) else (none)) else (none)
theorem laws_toIntS.mono_l : ∀ k, (∀ y0 y1 y2, LeO (laws_toIntS.l0 k y0 y1 y2) (laws_toIntS.l0 (k + 1) y0 y1 y2))
 | 0 => fun _ _ _ r h => by simp [laws_toIntS.l0] at h
 | k + 1 => by
  have ih0 := laws_toIntS.mono_l k
  ·intro y0 y1 y2
   unfold laws_toIntS.l0
   exact zm0
theorem laws_toIntS.mono : ∀ a0 k, LeO (laws_toIntS.f k a0) (laws_toIntS.f (k + 1) a0) := by
 intro a0 k; have ih0 := laws_toIntS.mono_l k; unfold laws_toIntS.f; exact zm0
def laws_eqIntS.l0 : Nat → List Int → List Int → Int → Option (Bool)
 | 0, _, _, _ => none
 | k + 1, x0, x1, x5 => if x5 < (x0.length : Int) then (if 0 ≤ x5 then (if x5 < (x1.length : Int) then (if (rd x0 x5) = (rd x1 x5) then (laws_eqIntS.l0 k x0 x1 (wrap64 (x5 + 1))) else (some false)) else (none)) else (none)) else (some true)
def laws_eqIntS.f (k : Nat) (l0 : List Int) (l1 : List Int) : Option (Bool) := if (l0.length : Int) = (l1.length : Int) then (laws_eqIntS.l0 k l0 l1 0) else (some false)
theorem laws_eqIntS.mono_l : ∀ k, (∀ y0 y1 y2, LeO (laws_eqIntS.l0 k y0 y1 y2) (laws_eqIntS.l0 (k + 1) y0 y1 y2))
 | 0 => fun _ _ _ r h => by simp [laws_eqIntS.l0] at h
 | k + 1 => by
  have ih0 := laws_eqIntS.mono_l k
  ·intro y0 y1 y2
   unfold laws_eqIntS.l0
   exact zm0
theorem laws_eqIntS.mono : ∀ a0 a1 k, LeO (laws_eqIntS.f k a0 a1) (laws_eqIntS.f (k + 1) a0 a1) := by
 intro a0 a1 k; have ih0 := laws_eqIntS.mono_l k; unfold laws_eqIntS.f; exact zm0
set_option maxHeartbeats 8000000 in
set_option maxRecDepth 100000 in
theorem laws_eqIntS.calls (k : Nat) (A0 : Option Addr) (c0 : Nat) (l0 : List Int) (A1 : Option Addr) (c1 : Nat) (l1 : List Int) (r : Bool) (w : World) (hr0 : Kd.C (Kd.int .i64) w A0 l0.length l0) (hc0 : l0.length ≤ c0) (hr1 : Kd.C (Kd.int .i64) w A1 l1.length l1) (hc1 : l1.length ≤ c1) (h : laws_eqIntS.f k l0 l1 = some r) :
  Calls Try.prog 11 #[.slice A0 l0.length c0, .slice A1 l1.length c1] w fun e w' => e = .returned (.bool r) ∧ Drawn0 w w' := by
 have HR0 := Aside0.mk hr0; have HC0 := Aside0.mk hc0; clear hr0 hc0; have HR1 := Aside0.mk hr1; have HC1 := Aside0.mk hc1; clear hr1 hc1; have H : (if (l0.length : Int) = (l1.length : Int) then (laws_eqIntS.l0 k l0 l1 0) else (some false)) = some r := h; clear h; by_cases c3 : (l0.length : Int) = (l1.length : Int); rotate_left
 ·rw [if_neg c3] at H; have c3b0 : ((l0.length : Int) == (l1.length : Int)) = false := beq_eq_false_iff_ne.mpr c3; have c3b1 : ((l0.length : Int) != (l1.length : Int)) = true := bne_iff_ne.mpr c3; (have c3b2 : (l0.length == l1.length) = false := by first | simpa using c3 | (simp at c3 ⊢; omega)); obtain rfl := Option.some.inj H; go_enter Try.func11, Try.ntmps11; go_wp2; (repeat (go_quiet (fail); try go_wp2)); go_ret; exact ⟨zz5, by repeat (first | exact Drawn0.refl _ | apply Drawn0.step)⟩
 rw [if_pos c3] at H; have c3b0 : ((l0.length : Int) == (l1.length : Int)) = true := beq_iff_eq.mpr c3; have c3b1 : ((l0.length : Int) != (l1.length : Int)) = false := bne_eq_false_iff_eq.mpr c3; (have c3b2 : (l0.length == l1.length) = true := by first | simpa using c3 | (simp at c3 ⊢; omega)); clear c3; have H' := Aside0.mk H; clear H; go_enter Try.func11, Try.ntmps11; go_wp2; (repeat (go_quiet (fail); try go_wp2)); (go_loopg [5] k (fun kq v5 w' => ∃ (x5_1 : Int), v5 = .int .i64 x5_1 ∧ Aside0 (laws_eqIntS.l0 kq l0 l1 x5_1 = some r) ∧ Aside0 (kq ≤ k) ∧ Drawn0 w w')); case atStart => exact ⟨(0), zz5, H', ⟨Nat.le_refl _⟩, by repeat (first | exact Drawn0.refl _ | apply Drawn0.step)⟩
 case round =>
  clear H'; (try clear c1); (try clear p2); (try clear c3); (try clear c3b0); (try clear c3b1); (try clear c3b2); obtain ⟨x5_1, rfl, HA, HK1, ⟨m1, rfl⟩⟩ := hrel
  cases gk with
  | zero => exact absurd HA.out (by simp [laws_eqIntS.l0])
  | succ k1 =>
   have H := HA.out; clear HA; simp only [laws_eqIntS.l0] at H; by_cases c4 : x5_1 < (l0.length : Int); rotate_left
   ·rw [if_neg c4] at H; have c4b0 := decide_eq_false c4; clear c4; obtain rfl := Option.some.inj H; go_wp2; (repeat (go_quiet (fail); try go_wp2)); go_ret; exact ⟨zz5, by repeat (first | exact Drawn0.refl _ | apply Drawn0.step)⟩
   rw [if_pos c4] at H; have c4b0 := decide_eq_true c4; clear c4; by_cases c5 : 0 ≤ x5_1; rotate_left
   ·rw [if_neg c5] at H; exact absurd H (by simp)
   rw [if_pos c5] at H; have c5b0 := decide_eq_true c5; clear c5; by_cases c6 : x5_1 < (l1.length : Int); rotate_left
   ·rw [if_neg c6] at H; exact absurd H (by simp)
   rw [if_pos c6] at H; have c6b0 := decide_eq_true c6; clear c6; by_cases c7 : (rd l0 x5_1) = (rd l1 x5_1); rotate_left
   ·rw [if_neg c7] at H; have c7b0 : ((rd l0 x5_1) == (rd l1 x5_1)) = false := beq_eq_false_iff_ne.mpr c7; have c7b1 : ((rd l0 x5_1) != (rd l1 x5_1)) = true := bne_iff_ne.mpr c7; obtain rfl := Option.some.inj H; have p101 : 0 ≤ (x5_1 : Int) := of_decide_eq_true zz4; have q101 : x5_1 < (l0.length : Int) := of_decide_eq_true zz4; obtain ⟨ad101, e101, hx101_0⟩ := Kd.at_int HR0.out x5_1 p101 q101; cases e101; replace p101 := eq_true p101; replace q101 := eq_true q101; have p102 : 0 ≤ (x5_1 : Int) := of_decide_eq_true zz4; have q102 : x5_1 < (l1.length : Int) := of_decide_eq_true zz4; obtain ⟨ad102, e102, hx102_0⟩ := Kd.at_int HR1.out x5_1 p102 q102; cases e102; replace p102 := eq_true p102; replace q102 := eq_true q102; go_wp2; (repeat (go_quiet (fail); try go_wp2)); go_ret; exact ⟨zz5, by repeat (first | exact Drawn0.refl _ | apply Drawn0.step)⟩
   rw [if_pos c7] at H; have c7b0 : ((rd l0 x5_1) == (rd l1 x5_1)) = true := beq_iff_eq.mpr c7; have c7b1 : ((rd l0 x5_1) != (rd l1 x5_1)) = false := bne_eq_false_iff_eq.mpr c7; clear c7; have H' := Aside0.mk H; clear H; have p101 : 0 ≤ (x5_1 : Int) := of_decide_eq_true zz4; have q101 : x5_1 < (l0.length : Int) := of_decide_eq_true zz4; obtain ⟨ad101, e101, hx101_0⟩ := Kd.at_int HR0.out x5_1 p101 q101; cases e101; replace p101 := eq_true p101; replace q101 := eq_true q101; have p102 : 0 ≤ (x5_1 : Int) := of_decide_eq_true zz4; have q102 : x5_1 < (l1.length : Int) := of_decide_eq_true zz4; obtain ⟨ad102, e102, hx102_0⟩ := Kd.at_int HR1.out x5_1 p102 q102; cases e102; replace p102 := eq_true p102; replace q102 := eq_true q102; go_wp2; (repeat (go_quiet (fail); try go_wp2)); go_roundg k1; (case measure => have := HK1.out; omega); case rel => exact ⟨(wrap64 (x5_1 + 1)), zz5, H', ⟨zz36⟩, by repeat (first | exact Drawn0.refl _ | apply Drawn0.step)⟩
def laws_markIntS.l0 : Nat → List Int → Int → Int → Option (Int × List Int)
 | 0, _, _, _ => none
 | k + 1, x0, x1, x5 => if x5 < (x0.length : Int) then (if 0 ≤ x5 then (laws_markIntS.l0 k (x0.set (x5 : Int).toNat x1) (wrap64 (x1 + 1)) (wrap64 (x5 + 1))) else (none)) else (some (x1, x0))
def laws_markIntS.f (k : Nat) (l0 : List Int) (a1 : Int) : Option (Int × List Int) := laws_markIntS.l0 k l0 a1 0
theorem laws_markIntS.mono_l : ∀ k, (∀ y0 y1 y2, LeO (laws_markIntS.l0 k y0 y1 y2) (laws_markIntS.l0 (k + 1) y0 y1 y2))
 | 0 => fun _ _ _ r h => by simp [laws_markIntS.l0] at h
 | k + 1 => by
  have ih0 := laws_markIntS.mono_l k
  ·intro y0 y1 y2
   unfold laws_markIntS.l0
   exact zm0
theorem laws_markIntS.mono : ∀ a0 a1 k, LeO (laws_markIntS.f k a0 a1) (laws_markIntS.f (k + 1) a0 a1) := by
 intro a0 a1 k; have ih0 := laws_markIntS.mono_l k; unfold laws_markIntS.f; exact zm0
set_option maxHeartbeats 8000000 in
set_option maxRecDepth 100000 in
theorem laws_markIntS.calls (k : Nat) (P0_ : Nat → Prop) (u9000_ : Value) (l0 : List Int) (a1 : Int) (r1 : Int) (r2 : List Int) (w0 w : World) (hB : Below w0.heap.size w0 w) (ho0 : Kd.R (Kd.int .i64) 3 w w0.heap.size P0_ u9000_ l0) (h : laws_markIntS.f k l0 a1 = some (r1, r2)) :
  Calls Try.prog 14 #[u9000_, .int .i64 a1] w fun e w' => e = .returned (.int .i64 r1) ∧ Kd.R (Kd.int .i64) 3 w' w0.heap.size (fun k_ => (P0_ k_ ∨ w.heap.size ≤ k_)) u9000_ r2 ∧ Below w0.heap.size w0 w' ∧ Kept w w' (fun k_ => P0_ k_) := by
 have HO0 := Aside0.mk (show Kd.R (Kd.int .i64) 3 w w0.heap.size (fun k_ => (P0_ k_ ∨ w.heap.size ≤ k_)) u9000_ l0 from Kd.R_mono ho0 (fun k_ hk => (.inl hk))); have HK := Aside0.mk (Kept.refl w (fun k_ => P0_ k_)); have HW0 := Aside0.mk hB.size; have HB := Aside0.mk hB; clear hB; have H : (laws_markIntS.l0 k l0 a1 0) = some (r1, r2) := h; clear h; have H' := Aside0.mk H; clear H; go_enter Try.func14, Try.ntmps14; go_wp2; (go_loopg [1, 5] k (fun kq v1 v5 w' => ∃ (x0_1 : List Int) (x1_1 : Int) (x5_1 : Int), v1 = .int .i64 x1_1 ∧ v5 = .int .i64 x5_1 ∧ Aside0 (laws_markIntS.l0 kq x0_1 x1_1 x5_1 = some (r1, r2)) ∧ Aside0 (kq ≤ k) ∧ Aside0 (Kd.R (Kd.int .i64) 3 w' w0.heap.size (fun k_ => (P0_ k_ ∨ w.heap.size ≤ k_)) u9000_ x0_1) ∧ Aside0 (Kept w w' (fun k_ => P0_ k_)) ∧ Aside0 (Below w0.heap.size w0 w'))); case atStart => exact ⟨(l0), (a1), (0), zz5, zz5, H', ⟨Nat.le_refl _⟩, ⟨by (with_reducible repeat (first | apply Kd.R_alloc | apply Kd.R_drewN | apply Kd.R_drew)); exact HO0.out⟩, ⟨zz35⟩, ⟨zz1⟩⟩
 case round =>
  clear H'; (try clear c1); (try clear p2); obtain ⟨x0_1, x1_1, x5_1, rfl, rfl, HA, HK1, HO_0, HK, HB⟩ := hrel
  cases gk with
  | zero => exact absurd HA.out (by simp [laws_markIntS.l0])
  | succ k1 =>
   have H := HA.out; clear HA; simp only [laws_markIntS.l0] at H; by_cases c3 : x5_1 < (x0_1.length : Int); rotate_left
   ·rw [if_neg c3] at H; have c3b0 := decide_eq_false c3; clear c3; simp only [Option.some.injEq, Prod.mk.injEq] at H; obtain ⟨rfl, rfl⟩ := H; obtain ⟨Ao9, co9, eo9⟩ := Kd.R_slice HO_0.out; subst eo9; go_wp2; go_ret; exact ⟨zz8, by (with_reducible repeat (first | apply Kd.R_alloc | apply Kd.R_drewN | apply Kd.R_drew)); exact HO_0.out, zz1, zz35⟩
   rw [if_pos c3] at H; have c3b0 := decide_eq_true c3; clear c3; by_cases c4 : 0 ≤ x5_1; rotate_left
   ·rw [if_neg c4] at H; exact absurd H (by simp)
   rw [if_pos c4] at H; have c4b0 := decide_eq_true c4; clear c4; obtain ⟨y101, hy_⟩ : ∃ y_ : List Int, y_ = (x0_1.set (x5_1 : Int).toNat x1_1) := ⟨_, rfl⟩; (replace H : (laws_markIntS.l0 k1 y101 (wrap64 (x1_1 + 1)) (wrap64 (x5_1 + 1))) = some (r1, r2) := zzY); have Ny101 := Aside0.mk hy_; clear hy_; have H' := Aside0.mk H; clear H; obtain ⟨Ao6, co6, eo6⟩ := Kd.R_slice HO_0.out; subst eo6; have p5 : 0 ≤ (x5_1 : Int) := of_decide_eq_true zz4; have q5 : (x5_1 : Int) < ((x0_1.length : Int) : Int) := of_decide_eq_true zz4; obtain ⟨go5, co5, eo5, gb5, gl5, cl5, HG5⟩ := Kd.R_form HO_0.out (by omega); (first | cases eo5 | (injection eo5 with ea_ en_ ec_; (first | subst ea_ | (injection ea_ with ea_; subst ea_)); subst ec_; clear en_)); have GB5 := Aside0.mk gb5; have GG5 := Aside0.mk HG5; clear gb5 gl5 HG5; have HMgo5 := Aside0.mk (show (P0_ go5 ∨ w.heap.size ≤ go5) from (HO_0.out.1 _ rfl)); obtain ⟨hx5_0, hf5_0⟩ := Kd.R_celln 0 HO_0.out (x5_1 : Int) p5 q5; replace p5 := eq_true p5; replace q5 := eq_true q5; have HP7 := Kd.R_putg HO_0.out (x5_1 : Int) x1_1; (go_wp2_with (first | ((with_reducible refine gate_store (t := 3) (p := 15) rfl ?_); refine store_event (t := 3) (p := 15) (v := ?vo_w8) (w1 := (wr.setCell ⟨go5, (x5_1 : Int).toNat, none⟩ (.int .i64 x1_1))) ?hg ?ho ?hn ?hr ?_; (case ho => rfl); (case hg => rfl); (case hn => rfl); (case hr => exact zz13); intro w8 hw; have hg : wr.grownBy w8 (some go5) := (by rw [hw]; exact HP7.2); have hp_ : Kd.R (Kd.int .i64) 3 w8 w0.heap.size (fun k_ => (P0_ k_ ∨ w.heap.size ≤ k_)) (.slice (some ⟨go5, 0, none⟩) x0_1.length co6) y101 := (by rw [hw, Ny101.out]; exact HP7.1); clear HP7; have n_ := zA3 hp_ (by rw [hw]; exact below_set (HB.out) GB5.out : Below w0.heap.size w0 w8) (Kept.of_grown (S := (fun k_ => P0_ k_)) hg zz35 (fun k_ e_ => (HO_0.out.1 k_ e_))); clear HO_0 HB HK; obtain ⟨HO_0, HB, HK⟩ := n_; clear hg hw hp_))); go_roundg k1; (case measure => have := HK1.out; omega); case rel => exact ⟨(y101), (wrap64 (x1_1 + 1)), (wrap64 (x5_1 + 1)), zz5, zz5, H', ⟨zz36⟩, ⟨by (with_reducible repeat (first | apply Kd.R_alloc | apply Kd.R_drewN | apply Kd.R_drew)); exact HO_0.out⟩, ⟨zz35⟩, ⟨zz1⟩⟩
def laws_heldIntS.l0 : Nat → List Int → Int → Int → Option (Int)
 | 0, _, _, _ => none
 | k + 1, x0, x1, x5 => if x5 < (x0.length : Int) then (if 0 ≤ x5 then (if (rd x0 x5) = x1 then (laws_heldIntS.l0 k x0 (wrap64 (x1 + 1)) (wrap64 (x5 + 1))) else (some (-1))) else (none)) else (some x1)
def laws_heldIntS.f (k : Nat) (l0 : List Int) (a1 : Int) : Option (Int) := laws_heldIntS.l0 k l0 a1 0
theorem laws_heldIntS.mono_l : ∀ k, (∀ y0 y1 y2, LeO (laws_heldIntS.l0 k y0 y1 y2) (laws_heldIntS.l0 (k + 1) y0 y1 y2))
 | 0 => fun _ _ _ r h => by simp [laws_heldIntS.l0] at h
 | k + 1 => by
  have ih0 := laws_heldIntS.mono_l k
  ·intro y0 y1 y2
   unfold laws_heldIntS.l0
   exact zm0
theorem laws_heldIntS.mono : ∀ a0 a1 k, LeO (laws_heldIntS.f k a0 a1) (laws_heldIntS.f (k + 1) a0 a1) := by
 intro a0 a1 k; have ih0 := laws_heldIntS.mono_l k; unfold laws_heldIntS.f; exact zm0
set_option maxHeartbeats 8000000 in
set_option maxRecDepth 100000 in
theorem laws_heldIntS.calls (k : Nat) (A0 : Option Addr) (c0 : Nat) (l0 : List Int) (a1 : Int) (r : Int) (w : World) (hr0 : Kd.C (Kd.int .i64) w A0 l0.length l0) (hc0 : l0.length ≤ c0) (h : laws_heldIntS.f k l0 a1 = some r) :
  Calls Try.prog 15 #[.slice A0 l0.length c0, .int .i64 a1] w fun e w' => e = .returned (.int .i64 r) ∧ Drawn0 w w' := by
 have HR0 := Aside0.mk hr0; have HC0 := Aside0.mk hc0; clear hr0 hc0; have H : (laws_heldIntS.l0 k l0 a1 0) = some r := h; clear h; have H' := Aside0.mk H; clear H; go_enter Try.func15, Try.ntmps15; go_wp2; (go_loopg [1, 5] k (fun kq v1 v5 w' => ∃ (x1_1 : Int) (x5_1 : Int), v1 = .int .i64 x1_1 ∧ v5 = .int .i64 x5_1 ∧ Aside0 (laws_heldIntS.l0 kq l0 x1_1 x5_1 = some r) ∧ Aside0 (kq ≤ k) ∧ Drawn0 w w')); case atStart => exact ⟨(a1), (0), zz5, zz5, H', ⟨Nat.le_refl _⟩, by repeat (first | exact Drawn0.refl _ | apply Drawn0.step)⟩
 case round =>
  clear H'; (try clear c1); (try clear p2); obtain ⟨x1_1, x5_1, rfl, rfl, HA, HK1, ⟨m1, rfl⟩⟩ := hrel
  cases gk with
  | zero => exact absurd HA.out (by simp [laws_heldIntS.l0])
  | succ k1 =>
   have H := HA.out; clear HA; simp only [laws_heldIntS.l0] at H; by_cases c3 : x5_1 < (l0.length : Int); rotate_left
   ·rw [if_neg c3] at H; have c3b0 := decide_eq_false c3; clear c3; obtain rfl := Option.some.inj H; go_wp2; go_ret; exact ⟨zz5, by repeat (first | exact Drawn0.refl _ | apply Drawn0.step)⟩
   rw [if_pos c3] at H; have c3b0 := decide_eq_true c3; clear c3; by_cases c4 : 0 ≤ x5_1; rotate_left
   ·rw [if_neg c4] at H; exact absurd H (by simp)
   rw [if_pos c4] at H; have c4b0 := decide_eq_true c4; clear c4; by_cases c5 : (rd l0 x5_1) = x1_1; rotate_left
   ·rw [if_neg c5] at H; have c5b0 : ((rd l0 x5_1) == x1_1) = false := beq_eq_false_iff_ne.mpr c5; have c5b1 : ((rd l0 x5_1) != x1_1) = true := bne_iff_ne.mpr c5; obtain rfl := Option.some.inj H; have p101 : 0 ≤ (x5_1 : Int) := of_decide_eq_true zz4; have q101 : x5_1 < (l0.length : Int) := of_decide_eq_true zz4; obtain ⟨ad101, e101, hx101_0⟩ := Kd.at_int HR0.out x5_1 p101 q101; cases e101; replace p101 := eq_true p101; replace q101 := eq_true q101; go_wp2; go_ret; exact ⟨zz5, by repeat (first | exact Drawn0.refl _ | apply Drawn0.step)⟩
   rw [if_pos c5] at H; have c5b0 : ((rd l0 x5_1) == x1_1) = true := beq_iff_eq.mpr c5; have c5b1 : ((rd l0 x5_1) != x1_1) = false := bne_eq_false_iff_eq.mpr c5; clear c5; have H' := Aside0.mk H; clear H; have p101 : 0 ≤ (x5_1 : Int) := of_decide_eq_true zz4; have q101 : x5_1 < (l0.length : Int) := of_decide_eq_true zz4; obtain ⟨ad101, e101, hx101_0⟩ := Kd.at_int HR0.out x5_1 p101 q101; cases e101; replace p101 := eq_true p101; replace q101 := eq_true q101; go_wp2; go_roundg k1; (case measure => have := HK1.out; omega); case rel => exact ⟨(wrap64 (x1_1 + 1)), (wrap64 (x5_1 + 1)), zz5, zz5, H', ⟨zz36⟩, by repeat (first | exact Drawn0.refl _ | apply Drawn0.step)⟩
end Go.Proofs.Ytkcbinohpdhbgaa.P
end

section
namespace Go.Proofs.Ytkcbinohpdhbgaa.Cf
set_option linter.unusedVariables false
set_option linter.unusedSimpArgs false
open Go.RowKit Go.Proofs.YtkcbinohpdhbgaaW.PrintWords Go.Proofs.Ytkcbinohpdhbgaa.P
theorem wrap_succ {i : Nat} (h : i < 4611686018427387904) : wrap64 ((i : Int) + 1) = ((i + 1 : Nat) : Int) := by
  rw [wrap_id (by omega) (by omega)]
  omega
theorem eqIntS_l0 (x0 x1 : List Int) (h : x0.length ≤ 1048576) (hl : x0.length = x1.length) : ∀ (d i : Nat), i + d = x0.length → (∀ j, j < i → x0[j]? = x1[j]?) → Ep (fun k => laws_eqIntS.l0 k x0 x1 (i : Int)) (· = decide (x0 = x1)) := by
  intro d
  induction d with
  | zero =>
    intro i hi hx
    refine Ep.up ?_
    simp only [laws_eqIntS.l0]
    refine Ep.neg (by omega) (Ep.now ?_)
    have : x0 = x1 := by
      apply List.ext_getElem?
      intro j
      by_cases hj : j < i
      · exact hx j hj
      · rw [List.getElem?_eq_none (by omega), List.getElem?_eq_none (by omega)]
    simp [this]
  | succ d ih =>
    intro i hi hx
    refine Ep.up ?_
    simp only [laws_eqIntS.l0]
    refine Ep.pos (by omega) (Ep.pos (by omega) (Ep.pos (by omega) ?_))
    rw [rd_get (show i < x0.length by omega), rd_get (show i < x1.length by omega), wrap_succ (by omega)]
    refine Ep.ite (fun e => ?_) (fun e => Ep.now ?_)
    · refine ih (i + 1) (by omega) ?_
      intro j hj
      by_cases ej : j = i
      · subst ej
        rw [List.getElem?_eq_getElem (by omega), List.getElem?_eq_getElem (by omega), e]
      · exact hx j (by omega)
    · have : x0 ≠ x1 := by
        rintro rfl
        exact e rfl
      simp [this]
theorem eqIntS_any (x0 x1 : List Int) (h : x0.length ≤ 1048576) : Ep (fun k => laws_eqIntS.f k x0 x1) (· = decide (x0 = x1)) := by
  simp only [laws_eqIntS.f]
  refine Ep.ite (fun e => eqIntS_l0 x0 x1 h (by omega) x0.length 0 (by omega) (fun j hj => by omega)) (fun e => Ep.now ?_)
  have : x0 ≠ x1 := by
    rintro rfl
    exact e rfl
  simp [this]
theorem eqIntS_ok (x : List Int) (h : x.length ≤ 1048576) : Ep (fun k => laws_eqIntS.f k x x) (· = true) := (eqIntS_any x x h).mono (fun r hr => by rw [hr]; simp)
/-- The marks: k, k + 1, and so on. -/
def marks (k : Int) (n : Nat) : List Int := (List.range n).map (fun i : Nat => k + i)
theorem marks_len (k : Int) (n : Nat) : (marks k n).length = n := by simp [marks]
theorem marks_get {k : Int} {n i : Nat} (h : i < n) : (marks k n)[i]? = some (k + i) := by simp [marks, h]
theorem markIntS_l0 (n : Nat) (a : Int) (hn : n ≤ 1048576) (ha : 0 ≤ a ∧ a ≤ 1099511627776) : ∀ (d i : Nat) (x0 : List Int), i + d = n → x0.length = n → (∀ j, j < i → x0[j]? = (marks a n)[j]?) → Ep (fun k => laws_markIntS.l0 k x0 (a + i) (i : Int)) (· = (a + n, marks a n)) := by
  intro d
  induction d with
  | zero =>
    intro i x0 hi hl hx
    refine Ep.up ?_
    simp only [laws_markIntS.l0]
    refine Ep.neg (by omega) (Ep.now ?_)
    have : x0 = marks a n := by
      apply List.ext_getElem?
      intro j
      by_cases hj : j < i
      · exact hx j hj
      · rw [List.getElem?_eq_none (by omega), List.getElem?_eq_none (by rw [marks_len]; omega)]
    rw [this]
    have : i = n := by omega
    rw [this]
  | succ d ih =>
    intro i x0 hi hl hx
    refine Ep.up ?_
    simp only [laws_markIntS.l0]
    refine Ep.pos (by omega) (Ep.pos (by omega) ?_)
    rw [wrap_succ (by omega), wrap_id (x := a + i + 1) (by omega) (by omega), show a + (i : Int) + 1 = a + ((i + 1 : Nat) : Int) by omega]
    refine ih (i + 1) _ (by omega) (by simpa using hl) ?_
    intro j hj
    rw [Int.toNat_natCast]
    by_cases e : i = j
    · subst e
      rw [List.getElem?_set_self (by omega), marks_get (by omega)]
    · rw [List.getElem?_set_ne e]
      exact hx j (by omega)
theorem markIntS_ok (x : List Int) (a : Int) (h : x.length ≤ 1048576) (ha : 0 ≤ a ∧ a ≤ 1099511627776) : Ep (fun k => laws_markIntS.f k x a) (· = (a + x.length, marks a x.length)) := by
  have := markIntS_l0 x.length a h ha x.length 0 x (by omega) rfl (fun j hj => by omega)
  simp only [laws_markIntS.f]
  simpa using this
theorem heldIntS_l0 (n : Nat) (a : Int) (hn : n ≤ 1048576) (ha : 0 ≤ a ∧ a ≤ 1099511627776) : ∀ (d i : Nat), i + d = n → Ep (fun k => laws_heldIntS.l0 k (marks a n) (a + i) (i : Int)) (· = a + n) := by
  intro d
  induction d with
  | zero =>
    intro i hi
    refine Ep.up ?_
    simp only [laws_heldIntS.l0]
    refine Ep.neg (by rw [marks_len]; omega) (Ep.now ?_)
    have : i = n := by omega
    rw [this]
  | succ d ih =>
    intro i hi
    refine Ep.up ?_
    simp only [laws_heldIntS.l0]
    refine Ep.pos (by rw [marks_len]; omega) (Ep.pos (by omega) (Ep.pos ?_ ?_))
    · rw [rd_nat, List.getD_eq_getElem?_getD, marks_get (by omega)]
      rfl
    · rw [wrap_succ (by omega), wrap_id (x := a + i + 1) (by omega) (by omega), show a + (i : Int) + 1 = a + ((i + 1 : Nat) : Int) by omega]
      exact ih (i + 1) (by omega)
theorem heldIntS_ok (n : Nat) (a : Int) (h : n ≤ 1048576) (ha : 0 ≤ a ∧ a ≤ 1099511627776) : Ep (fun k => laws_heldIntS.f k (marks a n) a) (· = a + n) := by
  have := heldIntS_l0 n a h ha n 0 (by omega)
  simp only [laws_heldIntS.f]
  simpa using this
theorem rdE_get {es : List E} {i : Nat} (h : i < es.length) : rd_T76 es (i : Int) = es[i] := by simp [rd_T76, List.getD, h]
theorem l01In_eq (a b c : Int) : spec_l01In.f a b c = some (decide (b ≤ a ∧ a ≤ c)) := by
  unfold spec_l01In.f
  by_cases h : a ≥ b
  · rw [if_pos h]
    have : (b ≤ a ∧ a ≤ c) ↔ a ≤ c := ⟨fun x => x.2, fun x => ⟨h, x⟩⟩
    simp only [this]
  · rw [if_neg h]
    have : ¬ (b ≤ a ∧ a ≤ c) := fun x => h x.1
    simp only [this, decide_false]
theorem forall_drop {es : List E} {P : E → Prop} {i : Nat} (h : i < es.length) : (∀ e ∈ es.drop i, P e) ↔ (P es[i] ∧ ∀ e ∈ es.drop (i + 1), P e) := by
  rw [List.drop_eq_getElem_cons h]
  simp only [List.mem_cons, forall_eq_or_imp]
theorem specEdges_l0 (n : Int) (hn : 1 ≤ n ∧ n ≤ 6) (es : List E) (hl : es.length ≤ 12) : ∀ (d i : Nat), i + d = es.length → Ep (fun k => spec_EdgesOk.l0 k es (es.length : Int) (i : Int) n es) (· = decide (∀ e ∈ es.drop i, EOk n e)) := by
  intro d
  induction d with
  | zero =>
    intro i hi
    refine Ep.up ?_
    simp only [spec_EdgesOk.l0]
    refine Ep.neg (by omega) (Ep.now ?_)
    rw [List.drop_of_length_le (by omega)]
    simp
  | succ d ih =>
    intro i hi
    have hlt : i < es.length := by omega
    refine Ep.up ?_
    simp only [spec_EdgesOk.l0]
    refine Ep.pos (by omega) (Ep.pos (by omega) (Ep.pos (by omega) ?_))
    rw [rdE_get hlt, wrap_id (x := n - 1) (by omega) (by omega)]
    refine Ep.bind0 (l01In_eq _ _ _) ?_
    refine Ep.ite (fun h0 => ?_) (fun h0 => Ep.now ?_)
    · have h0' : 0 ≤ es[i].f0 ∧ es[i].f0 ≤ n - 1 := by simpa using h0
      rw [wrap_id (x := es[i].f0 + 1) (by omega) (by omega)]
      refine Ep.bind0 (l01In_eq _ _ _) ?_
      refine Ep.ite (fun h1 => ?_) (fun h1 => Ep.now ?_)
      · have h1' : es[i].f0 + 1 ≤ es[i].f1 ∧ es[i].f1 ≤ n - 1 := by simpa using h1
        rw [wrap_succ (by omega)]
        refine (ih (i + 1) (by omega)).mono ?_
        rintro _ rfl
        have : EOk n es[i] := by unfold EOk; omega
        simp only [forall_drop hlt, this, true_and]
      · have h1' : ¬ (es[i].f0 + 1 ≤ es[i].f1 ∧ es[i].f1 ≤ n - 1) := by simpa using h1
        have : ¬ EOk n es[i] := by unfold EOk; omega
        simp only [forall_drop hlt, this, false_and, decide_false]
    · have h0' : ¬ (0 ≤ es[i].f0 ∧ es[i].f0 ≤ n - 1) := by simpa using h0
      have : ¬ EOk n es[i] := by unfold EOk; omega
      simp only [forall_drop hlt, this, false_and, decide_false]
theorem specEdges (n : Int) (es : List E) : Ep (fun k => spec_EdgesOk.f k n es) (· = decide (EsOk n es)) := by
  simp only [spec_EdgesOk.f]
  refine Ep.bind0 (l01In_eq _ _ _) ?_
  refine Ep.ite (fun h0 => ?_) (fun h0 => ?_)
  · have h0' : 1 ≤ n ∧ n ≤ 6 := by simpa using h0
    refine Ep.up ?_
    simp only [spec_EdgesOk.j0]
    refine Ep.ite (fun h1 => Ep.now ?_) (fun h1 => ?_)
    · have : ¬ EsOk n es := by
        have : (es.length : Int) > 12 := by simpa using h1
        unfold EsOk
        omega
      simp [this]
    · have hl : es.length ≤ 12 := by
        have : ¬ (es.length : Int) > 12 := by simpa using h1
        omega
      refine (specEdges_l0 n h0' es hl es.length 0 (by omega)).mono ?_
      rintro _ rfl
      rw [List.drop_zero]
      unfold EsOk
      simp only [h0'.1, h0'.2, hl, true_and]
  · have h0' : ¬ (1 ≤ n ∧ n ≤ 6) := by simpa using h0
    refine Ep.up ?_
    simp only [spec_EdgesOk.j0]
    refine Ep.pos (by simp) (Ep.now ?_)
    have : ¬ EsOk n es := by
      unfold EsOk
      omega
    simp [this]
theorem specHas_l0 (x : Int) (l : List Int) (hl : l.length ≤ 1048576) : ∀ (d i : Nat), i + d = l.length → Ep (fun k => spec_l02Has.l0 k x l (l.length : Int) (i : Int)) (· = decide (x ∈ l.drop i)) := by
  intro d
  induction d with
  | zero =>
    intro i hi
    refine Ep.up ?_
    simp only [spec_l02Has.l0]
    refine Ep.neg (by omega) (Ep.now ?_)
    rw [List.drop_of_length_le (by omega)]
    simp
  | succ d ih =>
    intro i hi
    have hlt : i < l.length := by omega
    refine Ep.up ?_
    simp only [spec_l02Has.l0]
    refine Ep.pos (by omega) (Ep.pos (by omega) (Ep.pos (by omega) ?_))
    rw [rd_get hlt, wrap_succ (by omega), List.drop_eq_getElem_cons hlt]
    refine Ep.ite (fun h => Ep.now ?_) (fun h => ?_)
    · simp only [List.mem_cons, h, true_or, decide_true]
    · refine (ih (i + 1) (by omega)).mono ?_
      rintro _ rfl
      have : ¬ x = l[i] := fun e => h e.symm
      simp only [List.mem_cons, this, false_or]
theorem specHas (l : List Int) (x : Int) (hl : l.length ≤ 1048576) : Ep (fun k => spec_l02Has.f k l x) (· = decide (x ∈ l)) := by
  have := specHas_l0 x l hl l.length 0 (by omega)
  simp only [spec_l02Has.f]
  exact this
/-- The queue between two edges. -/
structure BInv (es : List E) (n : Nat) (q : List Int) (a i : Nat) (u : Int) : Prop where
  ok : QOk es n q
  zero : (0 : Int) ∈ q
  done : ∀ x ∈ q.take a, ∀ b, Adj es x b → b ∈ q
  at_ : q[a]? = some u
  part : ∀ e ∈ es.take i, (e.f0 = u → e.f1 ∈ q) ∧ (e.f1 = u → e.f0 ∈ q)
theorem BInv.lt {es : List E} {n : Nat} {q : List Int} {a i : Nat} {u : Int} (h : BInv es n q a i u) : a < q.length := by
  apply Classical.byContradiction
  intro hc
  have := h.at_
  rw [List.getElem?_eq_none (by omega)] at this
  cases this
theorem BInv.len {es : List E} {n : Nat} {q : List Int} {a i : Nat} {u : Int} (h : BInv es n q a i u) : q.length ≤ n := nodup_len n q h.ok.1 (fun v hv => (h.ok.2 v hv).1)
theorem BInv.rd {es : List E} {n : Nat} {q : List Int} {a i : Nat} {u : Int} (h : BInv es n q a i u) : rd q (a : Int) = u := by
  rw [rd_nat, List.getD_eq_getElem?_getD, h.at_]
  rfl
/-- A neighbour is put behind. -/
theorem BInv.push {es : List E} {n : Nat} {q : List Int} {a i : Nat} {u v : Int} (hes : ∀ e ∈ es, EOk n e) (h : BInv es n q a i u) (hv : v ∉ q) (hadj : Adj es u v) : BInv es n (q ++ [v]) a i u where
  ok := by
    have hu : u ∈ q := List.mem_of_getElem? h.at_
    exact h.ok.push hv (EsOk.adj hes hadj) ((h.ok.2 u hu).2.tail hadj)
  zero := List.mem_append_left _ h.zero
  done := fun x hx b hb => by
    rw [List.take_append_of_le_length (by have := h.lt; omega)] at hx
    exact List.mem_append_left _ (h.done x hx b hb)
  at_ := by rw [List.getElem?_append_left h.lt]; exact h.at_
  part := fun e he => ⟨fun x => List.mem_append_left _ ((h.part e he).1 x), fun x => List.mem_append_left _ ((h.part e he).2 x)⟩
theorem BInv.next {es : List E} {n : Nat} {q : List Int} {a i : Nat} {u : Int} (h : BInv es n q a i u) (hi : i < es.length) (h0 : es[i].f0 = u → es[i].f1 ∈ q) (h1 : es[i].f1 = u → es[i].f0 ∈ q) : BInv es n q a (i + 1) u where
  ok := h.ok
  zero := h.zero
  done := h.done
  at_ := h.at_
  part := fun e he => by
    rw [List.take_succ_eq_append_getElem hi] at he
    rcases List.mem_append.1 he with he | he
    · exact h.part e he
    · rw [List.mem_singleton.1 he]
      exact ⟨h0, h1⟩
theorem specReach_l1 (n : Nat) (hn : n ≤ 6) (es : List E) (hl : es.length ≤ 12) (hes : ∀ e ∈ es, EOk n e) (a : Nat) (u : Int) {Q : List Int → Prop}
    (hk : ∀ q, BInv es n q a es.length u → Ep (fun k => spec_l02Reach.l0 k q ((a + 1 : Nat) : Int) (n : Int) es) Q) :
    ∀ (d i : Nat) (q : List Int), i + d = es.length → BInv es n q a i u → Ep (fun k => spec_l02Reach.l1 k q (a : Int) es (es.length : Int) (i : Int) (n : Int) es) Q := by
  intro d
  induction d with
  | zero =>
    intro i q hi hb
    refine Ep.up ?_
    simp only [spec_l02Reach.l1]
    refine Ep.neg (by omega) ?_
    have := hb.lt
    have := hb.len
    rw [wrap_succ (by omega)]
    have e : i = es.length := by omega
    subst e
    exact hk q hb
  | succ d ih =>
    intro i q hi hb
    have hlt : i < es.length := by omega
    have hal := hb.lt
    have hql := hb.len
    have he := hes es[i] (List.getElem_mem hlt)
    have heok := he
    unfold EOk at he
    have hadj : Adj es es[i].f0 es[i].f1 := ⟨es[i], List.getElem_mem hlt, .inl ⟨rfl, rfl⟩⟩
    -- the second test, behind the first
    have second : ∀ q', BInv es n q' a i u → (es[i].f0 = u → es[i].f1 ∈ q') → Ep (fun k => if (0 : Int) ≤ (a : Int) then (if (a : Int) < (q'.length : Int) then (if es[i].f1 = rd q' (a : Int) then ((spec_l02Has.f k q' es[i].f0).bind fun t => (if t = true then (spec_l02Reach.l1 k q' (a : Int) es (es.length : Int) (wrap64 ((i : Int) + 1)) (n : Int) es) else (if q'.length < 17592186044416 then (spec_l02Reach.l1 k (q' ++ [es[i].f0]) (a : Int) es (es.length : Int) (wrap64 ((i : Int) + 1)) (n : Int) es) else (none)))) else (spec_l02Reach.l1 k q' (a : Int) es (es.length : Int) (wrap64 ((i : Int) + 1)) (n : Int) es)) else (none)) else (none)) Q := by
      intro q' hb' h0
      have hal' := hb'.lt
      have hql' := hb'.len
      refine Ep.pos (by omega) (Ep.pos (by omega) ?_)
      rw [hb'.rd, wrap_succ (by omega)]
      refine Ep.ite (fun h1 => ?_) (fun h1 => ih (i + 1) q' (by omega) (hb'.next hlt h0 (fun x => absurd x h1)))
      refine Ep.bind (specHas q' _ (by omega)) ?_
      rintro _ rfl
      refine Ep.ite (fun h2 => ih (i + 1) q' (by omega) (hb'.next hlt h0 (fun _ => by simpa using h2))) (fun h2 => Ep.pos (by omega) ?_)
      have h2' : es[i].f0 ∉ q' := by simpa using h2
      have hb2 := hb'.push hes h2' (by rw [← h1]; exact hadj.symm)
      exact ih (i + 1) _ (by omega) (hb2.next hlt (fun x => List.mem_append_left _ (h0 x)) (fun _ => by simp))
    refine Ep.up ?_
    simp only [spec_l02Reach.l1]
    refine Ep.pos (by omega) (Ep.pos (by omega) (Ep.pos (by omega) (Ep.pos (by omega) (Ep.pos (by omega) ?_))))
    rw [rdE_get hlt, hb.rd]
    refine Ep.ite (fun h0 => ?_) (fun h0 => ?_)
    · refine Ep.bind (specHas q _ (by omega)) ?_
      rintro _ rfl
      refine Ep.up ?_
      simp only [spec_l02Reach.j2]
      refine Ep.ite (fun h1 => Ep.pos (by omega) ?_) (fun h1 => second q hb (fun _ => by simpa using h1))
      have h1' : es[i].f1 ∉ q := by simpa using h1
      refine Ep.bind0 rfl ?_
      exact second _ (hb.push hes h1' (by rw [← h0]; exact hadj)) (fun _ => by simp)
    · refine Ep.up ?_
      simp only [spec_l02Reach.j2]
      exact Ep.neg (by simp) (second q hb (fun x => absurd x h0))
theorem specReach_l0 (n : Nat) (hn : 1 ≤ n ∧ n ≤ 6) (es : List E) (hl : es.length ≤ 12) (hes : ∀ e ∈ es, EOk n e) : ∀ (d a : Nat) (q : List Int), a + d = 7 → a ≤ q.length → QOk es n q → (0 : Int) ∈ q → (∀ x ∈ q.take a, ∀ b, Adj es x b → b ∈ q) →
    Ep (fun k => spec_l02Reach.l0 k q (a : Int) (n : Int) es) (fun r => (r.length = n ↔ Joined n es) ∧ r.length ≤ 6) := by
  intro d
  induction d with
  | zero =>
    intro a q ha hq hok _ _
    have := nodup_len n q hok.1 (fun v hv => (hok.2 v hv).1)
    omega
  | succ d ih =>
    intro a q ha hq hok h0 hdone
    have hlen := nodup_len n q hok.1 (fun v hv => (hok.2 v hv).1)
    refine Ep.up ?_
    simp only [spec_l02Reach.l0]
    refine Ep.ite (fun hlt => ?_) (fun hge => Ep.now ?_)
    · have hlt' : a < q.length := by omega
      have hb : BInv es n q a 0 q[a] := ⟨hok, h0, hdone, List.getElem?_eq_getElem hlt', fun e he => by simp at he⟩
      refine specReach_l1 n hn.2 es hl hes a q[a] ?_ es.length 0 q (by omega) hb
      intro q' hb'
      refine ih (a + 1) q' (by omega) (by have := hb'.lt; omega) hb'.ok hb'.zero ?_
      intro x hx b hadj
      have hal := hb'.lt
      rw [List.take_succ_eq_append_getElem hal] at hx
      rcases List.mem_append.1 hx with hx | hx
      · exact hb'.done x hx b hadj
      · have hx' : x = q'[a] := List.mem_singleton.1 hx
        have hu : q'[a] = q[a] := by
          have := hb'.at_
          rw [List.getElem?_eq_getElem hal] at this
          exact Option.some.inj this
        obtain ⟨e, he, h⟩ := hadj
        have hp := hb'.part e (by rw [List.take_of_length_le (Nat.le_refl _)]; exact he)
        rcases h with ⟨x0, x1⟩ | ⟨x0, x1⟩
        · rw [← x1]
          exact hp.1 (by rw [x0, hx', hu])
        · rw [← x0]
          exact hp.2 (by rw [x1, hx', hu])
    · have hfull : q.take a = q := List.take_of_length_le (by omega)
      rw [hfull] at hdone
      exact ⟨queue_joined hn.1 hok h0 hdone, by omega⟩
theorem specReach (n : Nat) (hn : 1 ≤ n ∧ n ≤ 6) (es : List E) (hl : es.length ≤ 12) (hes : ∀ e ∈ es, EOk n e) : Ep (fun k => spec_l02Reach.f k (n : Int) es) (fun r => (r.length = n ↔ Joined n es) ∧ r.length ≤ 6) := by
  simp only [spec_l02Reach.f]
  refine specReach_l0 n hn es hl hes 7 0 [0] rfl (by simp) ⟨by simp, fun v hv => ?_⟩ (by simp) (fun x hx => by simp at hx)
  rw [List.mem_singleton.1 hv]
  exact ⟨⟨Int.le_refl _, by omega⟩, .refl⟩
/-- Sorted up to an edge. -/
def SortedTo (es : List E) (i : Nat) : Prop := ∀ j, (h : j + 1 < es.length) → j + 1 < i → leE es[j] es[j + 1]
theorem specGraph_l0 (n : Nat) (es : List E) (hes : EsOk n es) : ∀ (d i : Nat), i + d = es.length → SortedTo es i → Ep (fun k => spec_GraphOk.l0 k es (es.length : Int) (i : Int) (n : Int) es) (· = gOk n es) := by
  have hes' := hes
  obtain ⟨hn1, hn6, hl, hok⟩ := hes
  intro d
  induction d with
  | zero =>
    intro i hi hs
    refine Ep.up ?_
    simp only [spec_GraphOk.l0]
    refine Ep.neg (by omega) ?_
    refine Ep.bind (specReach n (by omega) es hl hok) ?_
    rintro r ⟨hr, _⟩
    refine Ep.now ?_
    have hsorted : Sorted es := fun j h => hs j h (by omega)
    have hiff : GOk n es ↔ Joined n es := ⟨fun h => h.2.2, fun h => ⟨hes', hsorted, h⟩⟩
    by_cases hj : Joined n es
    · have : gOk n es = true := gOk_iff.2 (hiff.2 hj)
      rw [this, hr.2 hj]
      simp
    · have : gOk n es = false := by
        cases hg : gOk n es with
        | false => rfl
        | true => exact absurd (hiff.1 (gOk_iff.1 hg)) hj
      rw [this]
      have hne : r.length ≠ n := fun e => hj (hr.1 e)
      simp
      omega
  | succ d ih =>
    intro i hi hs
    have hlt : i < es.length := by omega
    have hbad : ∀ j, i = j + 1 → (hj : j < es.length) → ¬ leE es[j] es[i] → gOk n es = false := by
      intro j hij hj hx
      subst hij
      cases hg : gOk n es with
      | false => rfl
      | true => exact absurd ((gOk_iff.1 hg).2.1 j hlt) hx
    have hgood : (∀ j, i = j + 1 → (hj : j < es.length) → leE es[j] es[i]) → Ep (fun k => spec_GraphOk.l0 k es (es.length : Int) (wrap64 ((i : Int) + 1)) (n : Int) es) (· = gOk n es) := by
      intro hx
      rw [wrap_succ (by omega)]
      refine ih (i + 1) (by omega) ?_
      intro j h hji
      by_cases e : j + 1 < i
      · exact hs j h e
      · have e' : i = j + 1 := by omega
        have := hx j e' (by omega)
        subst e'
        exact this
    refine Ep.up ?_
    simp only [spec_GraphOk.l0]
    refine Ep.pos (by omega) (Ep.pos (by omega) (Ep.pos (by omega) ?_))
    refine Ep.ite (fun hpos => ?_) (fun hz => hgood (fun j hij _ => by omega))
    obtain ⟨j, rfl⟩ : ∃ j, i = j + 1 := ⟨i - 1, by omega⟩
    have hw : wrap64 (((j + 1 : Nat) : Int) - 1) = (j : Int) := by rw [wrap_id (by omega) (by omega)]; omega
    rw [hw, rdE_get hlt, rdE_get (show j < es.length by omega)]
    refine Ep.pos (by omega) (Ep.pos (by omega) ?_)
    refine Ep.ite (fun h0 => Ep.now ?_) (fun h0 => ?_)
    · exact (hbad j rfl (by omega) (by unfold leE; omega)).symm
    · refine Ep.ite (fun h1 => ?_) (fun h1 => hgood (fun j' hij _ => ?_))
      · refine Ep.ite (fun h2 => Ep.now ?_) (fun h2 => hgood (fun j' hij _ => ?_))
        · exact (hbad j rfl (by omega) (by unfold leE; omega)).symm
        · obtain rfl : j' = j := by omega
          unfold leE
          omega
      · obtain rfl : j' = j := by omega
        unfold leE
        omega
theorem specGraph (n : Int) (es : List E) : Ep (fun k => spec_GraphOk.f k n es) (· = gOk n es) := by
  simp only [spec_GraphOk.f]
  refine Ep.bind (specEdges n es) ?_
  rintro _ rfl
  refine Ep.ite (fun h => ?_) (fun h => Ep.now ?_)
  · have h' : EsOk n es := by simpa using h
    have h1 := h'.1
    obtain ⟨m, rfl⟩ := Int.eq_ofNat_of_zero_le (a := n) (by omega)
    exact specGraph_l0 m es h' es.length 0 (by omega) (fun j h hj => by omega)
  · have h' : ¬ EsOk n es := by simpa using h
    cases hg : gOk n es with
    | false => rfl
    | true => exact absurd (gOk_iff.1 hg).1 h'
end Go.Proofs.Ytkcbinohpdhbgaa.Cf
end

section
namespace Go.Proofs.Ytkcbinohpdhbgaa.Cf
set_option linter.unusedVariables false
set_option linter.unusedSimpArgs false
open Go.RowKit Go.Proofs.YtkcbinohpdhbgaaW.PrintWords Go.Proofs.YtkcbinohpdhbgaaW.PrintMore Go.Proofs.Ytkcbinohpdhbgaa.P
theorem within_eq (a b c : Int) : impl_within.f a b c = some (decide (b ≤ a ∧ a ≤ c)) := by
  unfold impl_within.f
  by_cases h : a ≥ b
  · rw [if_pos h]
    have : (b ≤ a ∧ a ≤ c) ↔ a ≤ c := ⟨fun x => x.2, fun x => ⟨h, x⟩⟩
    simp only [this]
  · rw [if_neg h]
    have : ¬ (b ≤ a ∧ a ≤ c) := fun x => h x.1
    simp only [this, decide_false]
theorem implEdges_l0 (n : Int) (es : List E) (hl : es.length ≤ 12) : ∀ (d i : Nat), i + d = es.length → Ep (fun k => impl_EdgesOk.l0 k es (es.length : Int) (i : Int) n es) (· = decide (∀ e ∈ es.drop i, EOk n e)) := by
  intro d
  induction d with
  | zero =>
    intro i hi
    refine Ep.up ?_
    simp only [impl_EdgesOk.l0]
    refine Ep.neg (by omega) (Ep.now ?_)
    rw [List.drop_of_length_le (by omega)]
    simp
  | succ d ih =>
    intro i hi
    have hlt : i < es.length := by omega
    have no : ¬ EOk n es[i] → false = decide (∀ e ∈ es.drop i, EOk n e) := fun h => by simp only [forall_drop hlt, h, false_and, decide_false]
    refine Ep.up ?_
    simp only [impl_EdgesOk.l0]
    refine Ep.pos (by omega) (Ep.pos (by omega) (Ep.pos (by omega) ?_))
    rw [rdE_get hlt]
    refine Ep.ite (fun h => Ep.now (no (by unfold EOk; omega))) (fun h0 => ?_)
    refine Ep.ite (fun h => Ep.now (no (by unfold EOk; omega))) (fun h1 => ?_)
    refine Ep.ite (fun h => Ep.now (no (by unfold EOk; omega))) (fun h2 => ?_)
    rw [wrap_succ (by omega)]
    refine (ih (i + 1) (by omega)).mono ?_
    rintro _ rfl
    have : EOk n es[i] := by unfold EOk; omega
    simp only [forall_drop hlt, this, true_and]
theorem implEdges (n : Int) (es : List E) : Ep (fun k => impl_EdgesOk.f k n es) (· = decide (EsOk n es)) := by
  simp only [impl_EdgesOk.f]
  refine Ep.bind0 (within_eq _ _ _) ?_
  refine Ep.ite (fun h0 => ?_) (fun h0 => ?_)
  · have h0' : 1 ≤ n ∧ n ≤ 6 := by simpa using h0
    refine Ep.up ?_
    simp only [impl_EdgesOk.j0]
    refine Ep.ite (fun h1 => Ep.now ?_) (fun h1 => ?_)
    · have : ¬ EsOk n es := by
        have : (es.length : Int) > 12 := by simpa using h1
        unfold EsOk
        omega
      simp [this]
    · have hl : es.length ≤ 12 := by
        have : ¬ (es.length : Int) > 12 := by simpa using h1
        omega
      refine (implEdges_l0 n es hl es.length 0 (by omega)).mono ?_
      rintro _ rfl
      rw [List.drop_zero]
      unfold EsOk
      simp only [h0'.1, h0'.2, hl, true_and]
  · have h0' : ¬ (1 ≤ n ∧ n ≤ 6) := by simpa using h0
    refine Ep.up ?_
    simp only [impl_EdgesOk.j0]
    refine Ep.pos (by simp) (Ep.now ?_)
    have : ¬ EsOk n es := by
      unfold EsOk
      omega
    simp [this]
theorem wraps_i64 (n : Int) (h0 : 0 ≤ n) (h1 : n < 2 ^ 62) : IntKind.i64.wrap n = n := by rw [IntKind.wrap_i64]; omega
theorem or_nat {a b : Nat} (ha : a < 2 ^ 62) (hb : b < 2 ^ 62) : Go.bits .or .i64 (a : Int) (b : Int) = ((a ||| b : Nat) : Int) := (bits_nat .i64 62 (by decide) wraps_i64 a b ha hb).2
theorem and_nat {a b : Nat} (ha : a < 2 ^ 62) (hb : b < 2 ^ 62) : Go.bits .and .i64 (a : Int) (b : Int) = ((a &&& b : Nat) : Int) := (bits_nat .i64 62 (by decide) wraps_i64 a b ha hb).1
theorem shl_nat {a : Nat} (ha : a < 62) : shl .i64 1 (a : Int) = ((2 ^ a : Nat) : Int) := by
  unfold shl
  have : (2 : Int) ^ a < 2 ^ 62 := by
    have := Nat.pow_lt_pow_right (a := 2) (by decide) ha
    exact_mod_cast this
  rw [Int.toNat_natCast, Nat.min_eq_left (by show a ≤ 64; omega), Int.one_mul, wraps_i64 _ (by have := Int.pow_nonneg (n := 2) (m := a) (by decide); omega) this]
  simp
theorem shr_nat {m a : Nat} (ha : a < 62) : shr .i64 (m : Int) (a : Int) = ((m / 2 ^ a : Nat) : Int) := by
  unfold shr
  rw [Int.toNat_natCast, Nat.min_eq_left (by show a ≤ 64; omega)]
  simp
/-- The test of a bit. -/
theorem bit_test {m : Nat} (hm : m < 2 ^ 62) {a : Nat} (ha : a < 62) : Go.bits .and .i64 (shr .i64 (m : Int) (a : Int)) 1 = 1 ↔ m.testBit a = true := by
  rw [shr_nat ha, show (1 : Int) = ((1 : Nat) : Int) from rfl, and_nat (Nat.lt_of_le_of_lt (Nat.div_le_self _ _) hm) (by decide)]
  rw [Nat.testBit_eq_decide_div_mod_eq, Nat.and_one_is_mod]
  generalize m / 2 ^ a = x
  simp only [decide_eq_true_eq]
  omega
theorem bit_cases {m a : Nat} : m.testBit a = true ∨ m.testBit a = false := by cases m.testBit a <;> simp
theorem step_lt {m : Nat} {e : E} {n : Int} (hm : m < 2 ^ 6) (he : EOk n e) (hn : n ≤ 6) : stepM m e < 2 ^ 6 := by
  unfold EOk at he
  unfold stepM
  split
  · apply Nat.or_lt_two_pow hm
    apply Nat.or_lt_two_pow
    · exact Nat.pow_lt_pow_right (by decide) (by omega)
    · exact Nat.pow_lt_pow_right (by decide) (by omega)
  · exact hm
theorem round_lt {n : Int} (hn : n ≤ 6) : ∀ (es : List E), (∀ e ∈ es, EOk n e) → ∀ {m : Nat}, m < 2 ^ 6 → roundM es m < 2 ^ 6 := by
  intro es
  induction es with
  | nil => intro _ m h; exact h
  | cons e r ih => intro hes m h; exact ih (fun x hx => hes x (List.mem_cons_of_mem _ hx)) (step_lt h (hes e List.mem_cons_self) hn)
open Classical in
noncomputable def joinedB (n : Int) (es : List E) : Bool := decide (Joined n es)
theorem joinedB_iff {n : Int} {es : List E} : joinedB n es = true ↔ Joined n es := by unfold joinedB; simp
theorem implConn_l1 (n : Int) (hn : n ≤ 6) (es : List E) (hl : es.length ≤ 1048576) (hes : ∀ e ∈ es, EOk n e) (x8 x9 : Int) {Q : Bool → Prop} (m0 : Nat)
    (hk : Ep (fun k => impl_connected.l0 k n es ((roundM es m0 : Nat) : Int) x8 (wrap64 (x9 + 1))) Q) :
    ∀ (d i : Nat) (m : Nat), i + d = es.length → m < 2 ^ 6 → roundM (es.drop i) m = roundM es m0 → Ep (fun k => impl_connected.l1 k n es (m : Int) x8 x9 es (es.length : Int) (i : Int)) Q := by
  intro d
  induction d with
  | zero =>
    intro i m hi hm hr
    refine Ep.up ?_
    simp only [impl_connected.l1]
    refine Ep.neg (by omega) ?_
    rw [List.drop_of_length_le (by omega)] at hr
    have e : m = roundM es m0 := hr
    rw [e]
    exact hk
  | succ d ih =>
    intro i m hi hm hr
    have hlt : i < es.length := by omega
    have hek := hes es[i] (List.getElem_mem hlt)
    have he := hek
    unfold EOk at he
    rw [List.drop_eq_getElem_cons hlt] at hr
    have hr' : roundM (es.drop (i + 1)) (stepM m es[i]) = roundM es m0 := hr
    have hst := step_lt hm hek hn
    obtain ⟨a, ha⟩ := Int.eq_ofNat_of_zero_le he.1
    obtain ⟨b, hb⟩ := Int.eq_ofNat_of_zero_le (a := es[i].f1) (by omega)
    have ha6 : a < 6 := by omega
    have hb6 : b < 6 := by omega
    have hm62 : m < 2 ^ 62 := by omega
    have pa : 2 ^ a < 2 ^ 6 := Nat.pow_lt_pow_right (by decide) ha6
    have pb : 2 ^ b < 2 ^ 6 := Nat.pow_lt_pow_right (by decide) hb6
    have pab : 2 ^ a ||| 2 ^ b < 2 ^ 6 := Nat.or_lt_two_pow pa pb
    have hset : Go.bits .or .i64 (m : Int) (Go.bits .or .i64 (shl .i64 1 (a : Int)) (shl .i64 1 (b : Int))) = ((m ||| (2 ^ a ||| 2 ^ b) : Nat) : Int) := by
      rw [shl_nat (by omega), shl_nat (by omega), or_nat (by omega) (by omega), or_nat (by omega) (by omega)]
    have hstep : (m.testBit a || m.testBit b) = true → stepM m es[i] = m ||| (2 ^ a ||| 2 ^ b) := by
      intro h
      unfold stepM
      rw [ha, hb]
      simp only [Int.ofNat_eq_natCast, Int.toNat_natCast]
      rw [if_pos h]
    have hstay : (m.testBit a || m.testBit b) = false → stepM m es[i] = m := by
      intro h
      unfold stepM
      rw [ha, hb]
      simp only [Int.ofNat_eq_natCast, Int.toNat_natCast]
      rw [if_neg (by rw [h]; simp)]
    refine Ep.up ?_
    simp only [impl_connected.l1]
    refine Ep.pos (by omega) (Ep.pos (by omega) (Ep.pos (by omega) ?_))
    rw [rdE_get hlt, ha, hb]
    refine Ep.pos (by omega) ?_
    rw [hset, wrap_succ (by omega)]
    refine Ep.ite (fun h => Ep.pos (by omega) ?_) (fun h => Ep.pos (by omega) (Ep.ite (fun h2 => ?_) (fun h2 => ?_)))
    · have := (bit_test hm62 (by omega)).1 h
      rw [← hstep (by rw [this]; rfl)]
      exact ih (i + 1) _ (by omega) hst hr'
    · have := (bit_test hm62 (by omega)).1 h2
      rw [← hstep (by rw [this]; simp)]
      exact ih (i + 1) _ (by omega) hst hr'
    · have h1 : m.testBit a = false := by
        rcases bit_cases (m := m) (a := a) with x | x
        · exact absurd ((bit_test hm62 (by omega)).2 x) h
        · exact x
      have h3 : m.testBit b = false := by
        rcases bit_cases (m := m) (a := b) with x | x
        · exact absurd ((bit_test hm62 (by omega)).2 x) h2
        · exact x
      have := hstay (by rw [h1, h3]; rfl)
      rw [this] at hr'
      exact ih (i + 1) _ (by omega) hm hr'
theorem implConn_l0 (n : Nat) (hn : 1 ≤ n ∧ n ≤ 6) (es : List E) (hl : es.length ≤ 1048576) (hes : ∀ e ∈ es, EOk n e) : ∀ (d i m : Nat), i + d = n → m < 2 ^ 6 → timesM es d m = timesM es n 1 → Ep (fun k => impl_connected.l0 k (n : Int) es (m : Int) (n : Int) (i : Int)) (· = joinedB n es) := by
  intro d
  induction d with
  | zero =>
    intro i m hi hm hr
    refine Ep.up ?_
    simp only [impl_connected.l0]
    refine Ep.neg (by omega) (Ep.pos (by omega) (Ep.now ?_))
    have hr' : m = timesM es n 1 := hr
    have hp : 1 ≤ 2 ^ n := Nat.one_le_two_pow
    have hp2 : 2 ^ n ≤ 2 ^ 6 := Nat.pow_le_pow_right (by decide) hn.2
    rw [shl_nat (by omega), wrap_id (by omega) (by omega)]
    rw [Bool.eq_iff_iff, joinedB_iff, ← times_joined hn.1 hes, ← hr']
    simp only [beq_iff_eq]
    omega
  | succ d ih =>
    intro i m hi hm hr
    refine Ep.up ?_
    simp only [impl_connected.l0]
    refine Ep.pos (by omega) ?_
    refine implConn_l1 n (by omega) es hl hes _ _ m ?_ es.length 0 m (by omega) hm (by rw [List.drop_zero])
    rw [wrap_succ (by omega)]
    exact ih (i + 1) _ (by omega) (round_lt (by omega) es hes hm) hr
theorem implConn (n : Nat) (hn : 1 ≤ n ∧ n ≤ 6) (es : List E) (hl : es.length ≤ 1048576) (hes : ∀ e ∈ es, EOk n e) : Ep (fun k => impl_connected.f k (n : Int) es) (· = joinedB n es) := by
  simp only [impl_connected.f]
  exact implConn_l0 n hn es hl hes n 0 1 (by omega) (by decide) rfl
end Go.Proofs.Ytkcbinohpdhbgaa.Cf
end

section
namespace Go.Proofs.Ytkcbinohpdhbgaa.P
open Go.RowKit Go.Proofs.YtkcbinohpdhbgaaW.PrintWords Go.Proofs.YtkcbinohpdhbgaaW.PrintLast Go.Proofs.YtkcbinohpdhbgaaW.PrintMore
attribute [local go_sem] max2_int min2_int max_two min_two max_three min_three max_four min_four
set_option linter.unusedVariables false
set_option linter.unusedSimpArgs false
def cmp_isNaN_int.f (a0 : Int) : Option (Bool) := some (a0 != a0)
set_option maxHeartbeats 8000000 in
set_option maxRecDepth 100000 in
theorem cmp_isNaN_int.calls (a0 : Int) (r : Bool) (w : World) (h : cmp_isNaN_int.f a0 = some r) :
  Calls Try.prog 106 #[.int .i64 a0] w fun e w' => e = .returned (.bool r) ∧ Drawn0 w w' := by
 have H : (some (a0 != a0)) = some r := h; clear h; obtain rfl := Option.some.inj H; go_enter Try.func106, Try.ntmps106; go_wp2; go_ret; exact ⟨zz5, by repeat (first | exact Drawn0.refl _ | apply Drawn0.step)⟩
def cmp_Compare_int.f (a0 : Int) (a1 : Int) : Option (Int) := (cmp_isNaN_int.f a0).bind fun t101 => ((cmp_isNaN_int.f a1).bind fun t102 => (if t101 = true then (if t102 = true then (some 0) else (some (-1))) else (if t102 = true then (some 1) else (if a0 < a1 then (some (-1)) else (if a0 > a1 then (some 1) else (some 0))))))
set_option maxHeartbeats 8000000 in
set_option maxRecDepth 100000 in
theorem cmp_Compare_int.calls (a0 : Int) (a1 : Int) (r : Int) (w : World) (h : cmp_Compare_int.f a0 a1 = some r) :
  Calls Try.prog 98 #[.int .i64 a0, .int .i64 a1] w fun e w' => e = .returned (.int .i64 r) ∧ Drawn0 w w' := by
 have H : ((cmp_isNaN_int.f a0).bind fun t101 => ((cmp_isNaN_int.f a1).bind fun t102 => (if t101 = true then (if t102 = true then (some 0) else (some (-1))) else (if t102 = true then (some 1) else (if a0 < a1 then (some (-1)) else (if a0 > a1 then (some 1) else (some 0))))))) = some r := h; clear h; replace H := Option.bind_eq_some_iff.mp H; obtain ⟨t101, A30, H⟩ := H; (try dsimp only at H); have A3 := Aside0.mk A30; clear A30; replace H := Option.bind_eq_some_iff.mp H; obtain ⟨t102, A40, H⟩ := H; (try dsimp only at H); have A4 := Aside0.mk A40; clear A40; by_cases c5 : t101 = true
 ·subst c5; rw [if_pos rfl] at H; by_cases c6 : t102 = true
  ·subst c6; rw [if_pos rfl] at H; obtain rfl := Option.some.inj H; go_enter Try.func98, Try.ntmps98; (go_wp2_with (first | ((with_reducible refine gate_callee (f := 106) rfl ?_); refine goesL_ (some 8) rfl rfl Try.func106 (by kernel_rfl) rfl #[.int .i64 a0] rfl zz3 ?_; (with_reducible refine (cmp_isNaN_int.calls a0 true _ A3.out).mono ?_); rintro e w' ⟨rfl, ⟨nd, rfl⟩⟩; refine ⟨_, rfl, ?_⟩) | ((with_reducible refine gate_callee (f := 106) rfl ?_); refine goesL_ (some 10) rfl rfl Try.func106 (by kernel_rfl) rfl #[.int .i64 a1] rfl zz3 ?_; (with_reducible refine (cmp_isNaN_int.calls a1 true _ A4.out).mono ?_); rintro e w' ⟨rfl, ⟨nd, rfl⟩⟩; refine ⟨_, rfl, ?_⟩))); go_ret; exact ⟨zz5, by repeat (first | exact Drawn0.refl _ | apply Drawn0.step)⟩
  replace c6 := Bool.eq_false_iff.mpr c6; subst c6; rw [if_neg (show ¬ (false = true) by decide)] at H; obtain rfl := Option.some.inj H; go_enter Try.func98, Try.ntmps98; (go_wp2_with (first | ((with_reducible refine gate_callee (f := 106) rfl ?_); refine goesL_ (some 8) rfl rfl Try.func106 (by kernel_rfl) rfl #[.int .i64 a0] rfl zz3 ?_; (with_reducible refine (cmp_isNaN_int.calls a0 true _ A3.out).mono ?_); rintro e w' ⟨rfl, ⟨nd, rfl⟩⟩; refine ⟨_, rfl, ?_⟩) | ((with_reducible refine gate_callee (f := 106) rfl ?_); refine goesL_ (some 10) rfl rfl Try.func106 (by kernel_rfl) rfl #[.int .i64 a1] rfl zz3 ?_; (with_reducible refine (cmp_isNaN_int.calls a1 false _ A4.out).mono ?_); rintro e w' ⟨rfl, ⟨nd, rfl⟩⟩; refine ⟨_, rfl, ?_⟩))); go_ret; exact ⟨zz5, by repeat (first | exact Drawn0.refl _ | apply Drawn0.step)⟩
 replace c5 := Bool.eq_false_iff.mpr c5; subst c5; rw [if_neg (show ¬ (false = true) by decide)] at H; by_cases c7 : t102 = true
 ·subst c7; rw [if_pos rfl] at H; obtain rfl := Option.some.inj H; go_enter Try.func98, Try.ntmps98; (go_wp2_with (first | ((with_reducible refine gate_callee (f := 106) rfl ?_); refine goesL_ (some 8) rfl rfl Try.func106 (by kernel_rfl) rfl #[.int .i64 a0] rfl zz3 ?_; (with_reducible refine (cmp_isNaN_int.calls a0 false _ A3.out).mono ?_); rintro e w' ⟨rfl, ⟨nd, rfl⟩⟩; refine ⟨_, rfl, ?_⟩) | ((with_reducible refine gate_callee (f := 106) rfl ?_); refine goesL_ (some 10) rfl rfl Try.func106 (by kernel_rfl) rfl #[.int .i64 a1] rfl zz3 ?_; (with_reducible refine (cmp_isNaN_int.calls a1 true _ A4.out).mono ?_); rintro e w' ⟨rfl, ⟨nd, rfl⟩⟩; refine ⟨_, rfl, ?_⟩))); go_ret; exact ⟨zz5, by repeat (first | exact Drawn0.refl _ | apply Drawn0.step)⟩
 replace c7 := Bool.eq_false_iff.mpr c7; subst c7; rw [if_neg (show ¬ (false = true) by decide)] at H; by_cases c8 : a0 < a1
 ·rw [if_pos c8] at H; have c8b0 := decide_eq_true c8; clear c8; obtain rfl := Option.some.inj H; go_enter Try.func98, Try.ntmps98; (go_wp2_with (first | ((with_reducible refine gate_callee (f := 106) rfl ?_); refine goesL_ (some 8) rfl rfl Try.func106 (by kernel_rfl) rfl #[.int .i64 a0] rfl zz3 ?_; (with_reducible refine (cmp_isNaN_int.calls a0 false _ A3.out).mono ?_); rintro e w' ⟨rfl, ⟨nd, rfl⟩⟩; refine ⟨_, rfl, ?_⟩) | ((with_reducible refine gate_callee (f := 106) rfl ?_); refine goesL_ (some 10) rfl rfl Try.func106 (by kernel_rfl) rfl #[.int .i64 a1] rfl zz3 ?_; (with_reducible refine (cmp_isNaN_int.calls a1 false _ A4.out).mono ?_); rintro e w' ⟨rfl, ⟨nd, rfl⟩⟩; refine ⟨_, rfl, ?_⟩))); go_ret; exact ⟨zz5, by repeat (first | exact Drawn0.refl _ | apply Drawn0.step)⟩
 rw [if_neg c8] at H; have c8b0 := decide_eq_false c8; clear c8; by_cases c9 : a0 > a1
 ·rw [if_pos c9] at H; have c9b0 : decide (a1 < a0) = true := decide_eq_true c9; clear c9; obtain rfl := Option.some.inj H; go_enter Try.func98, Try.ntmps98; (go_wp2_with (first | ((with_reducible refine gate_callee (f := 106) rfl ?_); refine goesL_ (some 8) rfl rfl Try.func106 (by kernel_rfl) rfl #[.int .i64 a0] rfl zz3 ?_; (with_reducible refine (cmp_isNaN_int.calls a0 false _ A3.out).mono ?_); rintro e w' ⟨rfl, ⟨nd, rfl⟩⟩; refine ⟨_, rfl, ?_⟩) | ((with_reducible refine gate_callee (f := 106) rfl ?_); refine goesL_ (some 10) rfl rfl Try.func106 (by kernel_rfl) rfl #[.int .i64 a1] rfl zz3 ?_; (with_reducible refine (cmp_isNaN_int.calls a1 false _ A4.out).mono ?_); rintro e w' ⟨rfl, ⟨nd, rfl⟩⟩; refine ⟨_, rfl, ?_⟩))); go_ret; exact ⟨zz5, by repeat (first | exact Drawn0.refl _ | apply Drawn0.step)⟩
 rw [if_neg c9] at H; have c9b0 : decide (a1 < a0) = false := decide_eq_false c9; clear c9; obtain rfl := Option.some.inj H; go_enter Try.func98, Try.ntmps98; (go_wp2_with (first | ((with_reducible refine gate_callee (f := 106) rfl ?_); refine goesL_ (some 8) rfl rfl Try.func106 (by kernel_rfl) rfl #[.int .i64 a0] rfl zz3 ?_; (with_reducible refine (cmp_isNaN_int.calls a0 false _ A3.out).mono ?_); rintro e w' ⟨rfl, ⟨nd, rfl⟩⟩; refine ⟨_, rfl, ?_⟩) | ((with_reducible refine gate_callee (f := 106) rfl ?_); refine goesL_ (some 10) rfl rfl Try.func106 (by kernel_rfl) rfl #[.int .i64 a1] rfl zz3 ?_; (with_reducible refine (cmp_isNaN_int.calls a1 false _ A4.out).mono ?_); rintro e w' ⟨rfl, ⟨nd, rfl⟩⟩; refine ⟨_, rfl, ?_⟩))); go_ret; exact ⟨zz5, by repeat (first | exact Drawn0.refl _ | apply Drawn0.step)⟩
def impl_compareEdges.f (a0_0 : Int) (a0_1 : Int) (a1_0 : Int) (a1_1 : Int) : Option (Int) := (cmp_Compare_int.f a0_0 a1_0).bind fun t103 => (if t103 = 0 then ((cmp_Compare_int.f a0_1 a1_1).bind fun t104 => (some t104)) else (some t103))
set_option maxHeartbeats 8000000 in
set_option maxRecDepth 100000 in
theorem impl_compareEdges.calls (a0_0 : Int) (a0_1 : Int) (a1_0 : Int) (a1_1 : Int) (r : Int) (w : World) (h : impl_compareEdges.f a0_0 a0_1 a1_0 a1_1 = some r) :
  Calls Try.prog 75 #[.agg #[.int .i64 a0_0, .int .i64 a0_1], .agg #[.int .i64 a1_0, .int .i64 a1_1]] w fun e w' => e = .returned (.int .i64 r) ∧ Below w.heap.size w w' := by
 have hu76 := Try.underlying76; have HB := Aside0.mk (Below.refl w.heap.size w); have H : ((cmp_Compare_int.f a0_0 a1_0).bind fun t103 => (if t103 = 0 then ((cmp_Compare_int.f a0_1 a1_1).bind fun t104 => (some t104)) else (some t103))) = some r := h; clear h; replace H := Option.bind_eq_some_iff.mp H; obtain ⟨t103, A30, H⟩ := H; (try dsimp only at H); have A3 := Aside0.mk A30; clear A30; by_cases c4 : t103 = 0; rotate_left
 ·rw [if_neg c4] at H; have c4b0 : (t103 == 0) = false := beq_eq_false_iff_ne.mpr c4; have c4b1 : (t103 != 0) = true := bne_iff_ne.mpr c4; obtain rfl := Option.some.inj H; go_enter Try.func75, Try.ntmps75; (go_wp2_with (first | ((with_reducible refine gate_dst (N := 2) rfl ?_); refine box_event ?hg (N := 2) ?hd (cs := #[.int .i64 a0_0, .int .i64 a0_1]) (t := 76) ?hr ?_; (case hd => rfl); (case hg => rfl); (case hr => exact zz13); intro gb101 hg w11 hbox hb; have n_ := zA4 (below_step zz1 hb) hbox (zz12 : w.heap.size ≤ gb101) (zz12 : w.heap.size ≤ gb101); clear HB; obtain ⟨HB, BK101, GW101, GE101⟩ := n_; clear hb hbox hg) | ((with_reducible refine gate_dst (N := 3) rfl ?_); refine box_event ?hg (N := 3) ?hd (cs := #[.int .i64 a1_0, .int .i64 a1_1]) (t := 76) ?hr ?_; (case hd => rfl); (case hg => rfl); (case hr => exact zz13); intro gb102 hg w12 hbox hb; have n_ := zA7 (blk_below (g := gb101) (o := .cells #[.int .i64 a0_0, .int .i64 a0_1] 76 (0, 0)) zz2 hb) (below_step zz0 hb) hbox (zz14 : w.heap.size ≤ gb102) (zz14 : w.heap.size ≤ gb102) (zz41 : gb101 ≠ gb102) (zz42 : gb102 ≠ gb101); clear BK101 HB; obtain ⟨BK101, HB, BK102, GW102, GE102, NB101_102, NB102_101⟩ := n_; clear hb hbox hg; have hnb13 := NB101_102.out; have hnc13 := NB102_101.out; have hcz14_0 := zC20 BK101; have hcz14_1 := zC21 BK101; have hfz14_0 := blk_frozen BK101.out 0; have hfz14_1 := blk_frozen BK101.out 1; have hcz15_0 := zC20 BK102; have hcz15_1 := zC21 BK102; have hfz15_0 := blk_frozen BK102.out 0; have hfz15_1 := blk_frozen BK102.out 1) | ((with_reducible refine gate_callee (f := 98) rfl ?_); refine goesL_ (some 10) rfl rfl Try.func98 (by kernel_rfl) rfl #[.int .i64 a0_0, .int .i64 a1_0] rfl zz3 ?_; (with_reducible refine (cmp_Compare_int.calls a0_0 a1_0 t103 _ A3.out).mono ?_); rintro e w' ⟨rfl, ⟨nd, rfl⟩⟩; refine ⟨_, rfl, ?_⟩))); go_ret; exact ⟨zz8, zz21⟩
 rw [if_pos c4] at H; have c4b0 : (t103 == 0) = true := beq_iff_eq.mpr c4; have c4b1 : (t103 != 0) = false := bne_eq_false_iff_eq.mpr c4; clear c4; replace H := Option.bind_eq_some_iff.mp H; obtain ⟨t104, A50, H⟩ := H; (try dsimp only at H); have A5 := Aside0.mk A50; clear A50; obtain rfl := Option.some.inj H; go_enter Try.func75, Try.ntmps75; (go_wp2_with (first | ((with_reducible refine gate_dst (N := 2) rfl ?_); refine box_event ?hg (N := 2) ?hd (cs := #[.int .i64 a0_0, .int .i64 a0_1]) (t := 76) ?hr ?_; (case hd => rfl); (case hg => rfl); (case hr => exact zz13); intro gb101 hg w6 hbox hb; have n_ := zA4 (below_step zz1 hb) hbox (zz12 : w.heap.size ≤ gb101) (zz12 : w.heap.size ≤ gb101); clear HB; obtain ⟨HB, BK101, GW101, GE101⟩ := n_; clear hb hbox hg) | ((with_reducible refine gate_dst (N := 3) rfl ?_); refine box_event ?hg (N := 3) ?hd (cs := #[.int .i64 a1_0, .int .i64 a1_1]) (t := 76) ?hr ?_; (case hd => rfl); (case hg => rfl); (case hr => exact zz13); intro gb102 hg w7 hbox hb; have n_ := zA7 (blk_below (g := gb101) (o := .cells #[.int .i64 a0_0, .int .i64 a0_1] 76 (0, 0)) zz2 hb) (below_step zz0 hb) hbox (zz14 : w.heap.size ≤ gb102) (zz14 : w.heap.size ≤ gb102) (zz41 : gb101 ≠ gb102) (zz42 : gb102 ≠ gb101); clear BK101 HB; obtain ⟨BK101, HB, BK102, GW102, GE102, NB101_102, NB102_101⟩ := n_; clear hb hbox hg; have hnb8 := NB101_102.out; have hnc8 := NB102_101.out; have hcz9_0 := zC20 BK101; have hcz9_1 := zC21 BK101; have hfz9_0 := blk_frozen BK101.out 0; have hfz9_1 := blk_frozen BK101.out 1; have hcz10_0 := zC20 BK102; have hcz10_1 := zC21 BK102; have hfz10_0 := blk_frozen BK102.out 0; have hfz10_1 := blk_frozen BK102.out 1) | ((with_reducible refine gate_callee (f := 98) rfl ?_); refine goesL_ (some 10) rfl rfl Try.func98 (by kernel_rfl) rfl #[.int .i64 a0_0, .int .i64 a1_0] rfl zz3 ?_; (with_reducible refine (cmp_Compare_int.calls a0_0 a1_0 t103 _ A3.out).mono ?_); rintro e w' ⟨rfl, ⟨nd, rfl⟩⟩; refine ⟨_, rfl, ?_⟩) | ((with_reducible refine gate_callee (f := 98) rfl ?_); refine goesL_ (some 18) rfl rfl Try.func98 (by kernel_rfl) rfl #[.int .i64 a0_1, .int .i64 a1_1] rfl zz3 ?_; (with_reducible refine (cmp_Compare_int.calls a0_1 a1_1 t104 _ A5.out).mono ?_); rintro e w' ⟨rfl, ⟨nd, rfl⟩⟩; refine ⟨_, rfl, ?_⟩))); go_ret; exact ⟨zz8, zz21⟩
end Go.Proofs.Ytkcbinohpdhbgaa.P
end

section
namespace Go.Proofs.Ytkcbinohpdhbgaa.Cf
set_option linter.unusedVariables false
set_option linter.unusedSimpArgs false
open Go.RowKit Go.Proofs.YtkcbinohpdhbgaaW.PrintWords Go.Proofs.YtkcbinohpdhbgaaW.PrintLast Go.Proofs.YtkcbinohpdhbgaaW.PrintMore Go.Proofs.Ytkcbinohpdhbgaa.P
def cmpI (a b : Int) : Int := if a < b then -1 else if a > b then 1 else 0
theorem cmp_eq (a b : Int) : cmp_Compare_int.f a b = some (cmpI a b) := by
  unfold cmp_Compare_int.f cmp_isNaN_int.f cmpI
  simp
  split <;> (try split) <;> rfl
def cmpE (a b : E) : Int := if cmpI a.f0 b.f0 = 0 then cmpI a.f1 b.f1 else cmpI a.f0 b.f0
theorem cmpE_eq (a b : E) : impl_compareEdges.f a.f0 a.f1 b.f0 b.f1 = some (cmpE a b) := by
  unfold impl_compareEdges.f cmpE
  rw [cmp_eq, cmp_eq]
  simp only [Option.bind_some]
  split <;> rfl
theorem cmpE_lt (a b : E) : cmpE a b < 0 ↔ ¬ leE b a := by
  unfold cmpE cmpI leE
  by_cases h : a.f0 < b.f0
  · simp [h]; try omega
  · by_cases h2 : a.f0 > b.f0
    · simp [h, h2]; try omega
    · by_cases h3 : a.f1 < b.f1
      · simp [h, h2, h3]; try omega
      · by_cases h4 : a.f1 > b.f1
        · simp [h, h2, h3, h4]; try omega
        · simp [h, h2, h3, h4]; try omega
open Classical in
noncomputable def sortedB (es : List E) : Bool := decide (Sorted es)
theorem sortedB_iff {es : List E} : sortedB es = true ↔ Sorted es := by unfold sortedB; simp
/-- Sorted from an index on. -/
def SortedFrom (es : List E) (i : Nat) : Prop := ∀ j, i ≤ j → (h : j + 1 < es.length) → leE es[j] es[j + 1]
theorem SortedFrom.all {es : List E} (h : SortedFrom es 0) : sortedB es = true := sortedB_iff.2 (fun j hj => h j (Nat.zero_le _) hj)
theorem SortedFrom.none {es : List E} {i : Nat} (h : i + 1 < es.length) (hn : ¬ leE es[i] es[i + 1]) : sortedB es = false := by
  cases hb : sortedB es with
  | false => rfl
  | true => exact absurd (sortedB_iff.1 hb i h) hn
theorem SortedFrom.down {es : List E} {i : Nat} (h : SortedFrom es (i + 1)) (hi : i + 1 < es.length) (hl : leE es[i] es[i + 1]) : SortedFrom es i := by
  intro j hj hjl
  by_cases e : j = i
  · subst e; exact hl
  · exact h j (by omega) hjl
set_option maxHeartbeats 2000000 in
set_option maxRecDepth 100000 in
theorem isf_calls (es : List E) (A : Option Addr) (c : Nat) (w : World) (hr : Kd.C k76 w A es.length es) (hc : es.length ≤ c) :
    Calls Try.prog 74 #[.slice A es.length c, .func (.func 75) #[] #[]] w fun e w' => e = .returned (.bool (sortedB es)) ∧ Below w.heap.size w w' := by
  have hlen := hr.2.1
  have HR := Aside0.mk hr
  have HL := Aside0.mk hlen
  clear hr hlen
  have HB := Aside0.mk (Below.refl w.heap.size w)
  go_enter Try.func74, Try.ntmps74
  go_wp2
  go_loopw [5] (fun v wr => ∃ i : Int, v = .int .i64 i ∧ Aside0 (-1 ≤ i ∧ i < es.length ∧ SortedFrom es i.toNat) ∧ Aside0 (Below w.heap.size w wr)) (fun v _ => (intOf v + 1).toNat)
  case atStart => exact ⟨(es.length : Int) - 1, by rw [wrap_id (by have := HL.out; omega) (by have := HL.out; omega)], ⟨by omega, by omega, fun j hj hjl => by omega⟩, HB⟩
  case round =>
    obtain ⟨i, rfl, HI, HB⟩ := hrel
    by_cases h0 : 0 < i
    · obtain ⟨j, hij⟩ : ∃ j : Nat, i = (j : Int) + 1 := ⟨(i - 1).toNat, by omega⟩
      have hj := HI.out.2.1
      have hl := HL.out
      have hw : wrap64 (i - 1) = (j : Int) := by rw [wrap_id (by omega) (by omega)]; omega
      have p1 : 0 ≤ i := by omega
      have p2 : 0 ≤ wrap64 (i - 1) := by omega
      have q2 : wrap64 (i - 1) < (es.length : Int) := by omega
      obtain ⟨ad, e, hx0, hx1⟩ := at_T76 HR.out i p1 hj
      cases e
      obtain ⟨ad', e, hy0, hy1⟩ := at_T76 HR.out (wrap64 (i - 1)) p2 q2
      cases e
      replace hx0 := (HB.out.cell (World.block_lt_of_cell? w _ hx0)).trans hx0
      replace hx1 := (HB.out.cell (World.block_lt_of_cell? w _ hx1)).trans hx1
      replace hy0 := (HB.out.cell (World.block_lt_of_cell? w _ hy0)).trans hy0
      replace hy1 := (HB.out.cell (World.block_lt_of_cell? w _ hy1)).trans hy1
      have c0 : decide (0 < i) = true := decide_eq_true h0
      replace p1 := eq_true p1
      have q1 := eq_true hj
      replace p2 := eq_true p2
      replace q2 := eq_true q2
      have HW := Aside0.mk hw
      have HIJ := Aside0.mk hij
      clear hj hl hw hij h0
      go_wp2
      go_still_tail 10, (by kernel_rfl)
      simp only [i64_w]
      repeat still_step
      refine wpStill_nil ?_
      change wpList _ _ _ _ _ wr.drew
      have HB' := Aside0.mk (below_drew1 HB.out)
      clear HB hx0 hx1 hy0 hy1
      generalize wr.drew = w2 at HB' ⊢
      have HX := Aside0.mk (cmpE_eq (rd_T76 es i) (rd_T76 es (wrap64 (i - 1))))
      have HC := Aside0.mk (cmpE_lt (rd_T76 es i) (rd_T76 es (wrap64 (i - 1))))
      generalize cmpE (rd_T76 es i) (rd_T76 es (wrap64 (i - 1))) = z at HX HC
      have HE : Aside0 (∃ hj : j + 1 < es.length, rd_T76 es i = es[j + 1] ∧ rd_T76 es (wrap64 (i - 1)) = es[j]) := by
        have hj : j + 1 < es.length := by
          have := HI.out.2.1
          have := HIJ.out
          omega
        have e1 : i = ((j + 1 : Nat) : Int) := by have := HIJ.out; omega
        refine ⟨hj, ?_, ?_⟩
        · rw [e1, rdE_get hj]
        · rw [HW.out, rdE_get (by omega)]
      by_cases hz : z < 0
      · have cz : decide (z < 0) = true := decide_eq_true hz
        have HZ := Aside0.mk hz
        clear hz
        go_wp2_with fail
        refine (impl_compareEdges.calls _ _ _ _ z _ HX.out).mono ?_
        rintro e w3 ⟨rfl, hb⟩
        go_wp2
        go_ret
        obtain ⟨hj, e1, e2⟩ := HE.out
        have hs := SortedFrom.none hj (by rw [← e1, ← e2]; exact HC.out.1 HZ.out)
        exact ⟨by rw [hs]; rfl, below_step HB'.out hb⟩
      · have cz : decide (z < 0) = false := decide_eq_false hz
        have HZ := Aside0.mk hz
        clear hz
        go_wp2_with fail
        refine (impl_compareEdges.calls _ _ _ _ z _ HX.out).mono ?_
        rintro e w3 ⟨rfl, hb⟩
        have HB2 := Aside0.mk (below_step HB'.out hb)
        clear hb
        go_wp2
        go_roundw
        case rel =>
          have hi := HI.out
          have hw := HW.out
          have hij := HIJ.out
          refine ⟨wrap64 (i - 1), rfl, ⟨by omega, by omega, ?_⟩, HB2⟩
          obtain ⟨hj, e1, e2⟩ := HE.out
          have hle : leE es[j] es[j + 1] := by
            rw [← e1, ← e2]
            apply Classical.byContradiction
            intro hn
            have h1 := HC.out.2 hn
            have h2 := HZ.out
            omega
          rw [hw, Int.toNat_natCast]
          refine SortedFrom.down ?_ hj hle
          have := hi.2.2
          rw [hij, show ((j : Int) + 1).toNat = j + 1 by omega] at this
          exact this
        case measure =>
          have hi := HI.out
          have hw := HW.out
          have hij := HIJ.out
          simp [intOf]
          omega
    · have c0 : decide (0 < i) = false := decide_eq_false h0
      have HZ := Aside0.mk h0
      clear h0
      go_wp2
      go_ret
      have := HI.out
      have h0 := HZ.out
      have hs : SortedFrom es i.toNat := this.2.2
      rw [show i.toNat = 0 by omega] at hs
      have ha := hs.all
      exact ⟨by rw [ha]; rfl, HB.out⟩
end Go.Proofs.Ytkcbinohpdhbgaa.Cf
end

section
namespace Go.Proofs.Ytkcbinohpdhbgaa.P
open Go.RowKit Go.Proofs.YtkcbinohpdhbgaaW.PrintWords Go.Proofs.YtkcbinohpdhbgaaW.PrintLast Go.Proofs.YtkcbinohpdhbgaaW.PrintMore
attribute [local go_sem] max2_int min2_int max_two min_two max_three min_three max_four min_four
set_option linter.unusedVariables false
set_option linter.unusedSimpArgs false
def impl_GraphOk.f (a0_0 : Int) (l0_1 : List (S76)) : Option Bool := some (Cf.gOk a0_0 l0_1)
set_option maxHeartbeats 2000000 in
set_option maxRecDepth 100000 in
theorem impl_GraphOk.calls (a0_0 : Int) (A0_1 : Option Addr) (c0_1 : Nat) (l0_1 : List (S76)) (r : Bool) (w : World) (hr0_1 : Kd.C k76 w A0_1 l0_1.length l0_1) (hc0_1 : l0_1.length ≤ c0_1) (h : impl_GraphOk.f a0_0 l0_1 = some r) :
  Calls Try.prog 39 #[.agg #[.int .i64 a0_0, .slice A0_1 l0_1.length c0_1]] w fun e w' => e = .returned (.bool r) ∧ Below w.heap.size w w' := by
 obtain rfl := Option.some.inj h; clear h; obtain ⟨k1, hk1⟩ := (Cf.implEdges a0_0 l0_1).rounds; have HR := Aside0.mk hr0_1; have HK1 := Aside0.mk hk1; clear hr0_1 hk1; go_enter Try.func39, Try.ntmps39; have HB := Aside0.mk (below_alloc (Below.refl w.heap.size w) (.cells #[.int .i64 a0_0, .slice A0_1 l0_1.length c0_1] 30)); have BK := Aside0.mk (heap_alloc_new w (.cells #[.int .i64 a0_0, .slice A0_1 l0_1.length c0_1] 30)); by_cases he : Cf.EsOk a0_0 l0_1; rotate_left
 ·have HE := Aside0.mk he; replace HK1 := Aside0.mk (HK1.out.trans (congrArg some (decide_eq_false he))); clear he; (go_wp2_with fail); refine (impl_EdgesOk.calls k1 _ _ _ l0_1 false _ (Kd.C_below HR.out HB.out) hc0_1 HK1.out).mono ?_; rintro e w1 ⟨rfl, hb⟩; have HB1 := Aside0.mk (below_step HB.out hb); clear hb; go_wp2; go_ret
  have hg : Cf.gOk a0_0 l0_1 = false := by
   cases hb : Cf.gOk a0_0 l0_1 with
   | false => rfl
   | true => exact absurd (Cf.gOk_iff.1 hb).1 HE.out
  exact ⟨by rw [hg]; rfl, HB1.out⟩
 have HE := Aside0.mk he; replace HK1 := Aside0.mk (HK1.out.trans (congrArg some (decide_eq_true he))); clear he; (go_wp2_with fail); refine (impl_EdgesOk.calls k1 _ _ _ l0_1 true _ (Kd.C_below HR.out HB.out) hc0_1 HK1.out).mono ?_; rintro e w1 ⟨rfl, hb⟩; have HB1 := Aside0.mk (below_step HB.out hb); have BK1 := Aside0.mk (blk_below BK.out hb); clear hb; have hz0 : w1.cell? ⟨w.heap.size, 0, none⟩ = some (.int .i64 a0_0) := (blk_cell BK1.out 0).trans rfl; have hz1 : w1.cell? ⟨w.heap.size, 1, none⟩ = some (.slice A0_1 l0_1.length c0_1) := (blk_cell BK1.out 1).trans rfl; (go_wp2_with fail); have HS := Aside0.mk (Cf.isf_calls l0_1 A0_1 c0_1 w1 (Kd.C_below HR.out HB1.out) hc0_1); by_cases hs : Cf.Sorted l0_1; rotate_left
 ·have hsb : Cf.sortedB l0_1 = false := by
   cases hb : Cf.sortedB l0_1 with
   | false => rfl
   | true => exact absurd (Cf.sortedB_iff.1 hb) hs
  rw [hsb] at HS; have HSo := Aside0.mk hs; clear hs hsb; refine HS.out.mono ?_; rintro e w2 ⟨rfl, hb⟩; have HB2 := Aside0.mk (below_step HB1.out hb); clear hb hz0 hz1; go_wp2; go_ret
  have hg : Cf.gOk a0_0 l0_1 = false := by
   cases hb : Cf.gOk a0_0 l0_1 with
   | false => rfl
   | true => exact absurd (Cf.gOk_iff.1 hb).2.1 HSo.out
  exact ⟨by rw [hg]; rfl, HB2.out⟩
 have HSo := Aside0.mk hs; rw [Cf.sortedB_iff.2 hs] at HS; clear hs; refine HS.out.mono ?_; rintro e w2 ⟨rfl, hb⟩; have HB2 := Aside0.mk (below_step HB1.out hb); have BK2 := Aside0.mk (blk_below BK1.out hb); clear hb hz0 hz1; have hz0 : w2.cell? ⟨w.heap.size, 0, none⟩ = some (.int .i64 a0_0) := (blk_cell BK2.out 0).trans rfl; have hz1 : w2.cell? ⟨w.heap.size, 1, none⟩ = some (.slice A0_1 l0_1.length c0_1) := (blk_cell BK2.out 1).trans rfl; (go_wp2_with fail); obtain ⟨h1, h6, hl, hes⟩ := HE.out; obtain ⟨n, rfl⟩ := Int.eq_ofNat_of_zero_le (a := a0_0) (by omega); obtain ⟨k2, hk2⟩ := (Cf.implConn n ⟨by omega, by omega⟩ l0_1 (by omega) hes).rounds; refine (impl_connected.calls k2 _ _ _ l0_1 (Cf.joinedB n l0_1) _ (Kd.C_below HR.out HB2.out) hc0_1 hk2).mono ?_; rintro e w3 ⟨rfl, hd⟩; have HB3 := Aside0.mk (below_step HB2.out hd); clear hd hk2 h1 h6 hl hes
 have hg : Cf.gOk n l0_1 = Cf.joinedB n l0_1 := by
  rw [Bool.eq_iff_iff, Cf.gOk_iff, Cf.joinedB_iff]; exact ⟨fun h => h.2.2, fun h => ⟨HE.out, HSo.out, h⟩⟩
 have HG := Aside0.mk hg; clear hg; generalize Cf.joinedB n l0_1 = z at HG ⊢; cases z
 ·go_wp2; go_ret; exact ⟨by rw [HG.out]; rfl, HB3.out⟩
 ·go_wp2; go_ret; exact ⟨by rw [HG.out]; rfl, HB3.out⟩
def impl_allWithin.l0 : Nat → Int → Int → List Int → Int → Int → Option (Bool)
 | 0, _, _, _, _, _ => none
 | k + 1, x1, x2, x9, x10, x11 => if x11 < x10 then (if 0 ≤ x11 then (if x11 < (x9.length : Int) then ((impl_within.f (rd x9 x11) x1 x2).bind fun t102 => (if t102 = true then (impl_allWithin.l0 k x1 x2 x9 x10 (wrap64 (x11 + 1))) else (some false))) else (none)) else (none)) else (some true)
def impl_allWithin.f (k : Nat) (l0 : List Int) (a1 : Int) (a2 : Int) : Option (Bool) := impl_allWithin.l0 k a1 a2 l0 (l0.length : Int) 0
theorem impl_allWithin.mono_l : ∀ k, (∀ y0 y1 y2 y3 y4, LeO (impl_allWithin.l0 k y0 y1 y2 y3 y4) (impl_allWithin.l0 (k + 1) y0 y1 y2 y3 y4))
 | 0 => fun _ _ _ _ _ r h => by simp [impl_allWithin.l0] at h
 | k + 1 => by
  have ih0 := impl_allWithin.mono_l k
  ·intro y0 y1 y2 y3 y4
   unfold impl_allWithin.l0
   exact zm0
theorem impl_allWithin.mono : ∀ a0 a1 a2 k, LeO (impl_allWithin.f k a0 a1 a2) (impl_allWithin.f (k + 1) a0 a1 a2) := by
 intro a0 a1 a2 k; have ih0 := impl_allWithin.mono_l k; unfold impl_allWithin.f; exact zm0
set_option maxHeartbeats 8000000 in
set_option maxRecDepth 100000 in
theorem impl_allWithin.calls (k : Nat) (A0 : Option Addr) (c0 : Nat) (l0 : List Int) (a1 : Int) (a2 : Int) (r : Bool) (w : World) (hr0 : Kd.C (Kd.int .i64) w A0 l0.length l0) (hc0 : l0.length ≤ c0) (h : impl_allWithin.f k l0 a1 a2 = some r) :
  Calls Try.prog 50 #[.slice A0 l0.length c0, .int .i64 a1, .int .i64 a2] w fun e w' => e = .returned (.bool r) ∧ Drawn0 w w' := by
 have HR0 := Aside0.mk hr0; have HC0 := Aside0.mk hc0; clear hr0 hc0; have H : (impl_allWithin.l0 k a1 a2 l0 (l0.length : Int) 0) = some r := h; clear h; have H' := Aside0.mk H; clear H; go_enter Try.func50, Try.ntmps50; go_wp2; (go_loopg [11] k (fun kq v11 w' => ∃ (x11_1 : Int), v11 = .int .i64 x11_1 ∧ Aside0 (impl_allWithin.l0 kq a1 a2 l0 (l0.length : Int) x11_1 = some r) ∧ Aside0 (kq ≤ k) ∧ Drawn0 w w')); case atStart => exact ⟨(0), zz5, H', ⟨Nat.le_refl _⟩, by repeat (first | exact Drawn0.refl _ | apply Drawn0.step)⟩
 case round =>
  clear H'; (try clear p2); obtain ⟨x11_1, rfl, HA, HK1, ⟨m1, rfl⟩⟩ := hrel
  cases gk with
  | zero => exact absurd HA.out (by simp [impl_allWithin.l0])
  | succ k1 =>
   have H := HA.out; clear HA; simp only [impl_allWithin.l0] at H; by_cases c4 : x11_1 < (l0.length : Int); rotate_left
   ·rw [if_neg c4] at H; have c4b0 := decide_eq_false c4; clear c4; obtain rfl := Option.some.inj H; go_wp2; go_ret; exact ⟨zz5, by repeat (first | exact Drawn0.refl _ | apply Drawn0.step)⟩
   rw [if_pos c4] at H; have c4b0 := decide_eq_true c4; clear c4; by_cases c5 : 0 ≤ x11_1; rotate_left
   ·rw [if_neg c5] at H; exact absurd H (by simp)
   rw [if_pos c5] at H; have c5b0 := decide_eq_true c5; clear c5; by_cases c6 : x11_1 < (l0.length : Int); rotate_left
   ·rw [if_neg c6] at H; exact absurd H (by simp)
   rw [if_pos c6] at H; have c6b0 := decide_eq_true c6; clear c6; replace H := Option.bind_eq_some_iff.mp H; obtain ⟨t102, A70, H⟩ := H; (try dsimp only at H); have A7 := Aside0.mk A70; clear A70; by_cases c8 : t102 = true; rotate_left
   ·replace c8 := Bool.eq_false_iff.mpr c8; subst c8; rw [if_neg (show ¬ (false = true) by decide)] at H; obtain rfl := Option.some.inj H; have p101 : 0 ≤ (x11_1 : Int) := of_decide_eq_true zz4; have q101 : x11_1 < (l0.length : Int) := of_decide_eq_true zz4; obtain ⟨ad101, e101, hx101_0⟩ := Kd.at_int HR0.out x11_1 p101 q101; cases e101; replace p101 := eq_true p101; replace q101 := eq_true q101; (go_wp2_with (first | ((with_reducible refine gate_callee (f := 55) rfl ?_); refine goesL_ (some 18) rfl rfl Try.func55 (by kernel_rfl) rfl #[.int .i64 (rd l0 x11_1), .int .i64 a1, .int .i64 a2] rfl zz3 ?_; (with_reducible refine (impl_within.calls (rd l0 x11_1) a1 a2 false _ A7.out).mono ?_); rintro e w' ⟨rfl, ⟨nd, rfl⟩⟩; refine ⟨_, rfl, ?_⟩))); go_ret; exact ⟨zz5, by repeat (first | exact Drawn0.refl _ | apply Drawn0.step)⟩
   subst c8; rw [if_pos rfl] at H; have H' := Aside0.mk H; clear H; have p101 : 0 ≤ (x11_1 : Int) := of_decide_eq_true zz4; have q101 : x11_1 < (l0.length : Int) := of_decide_eq_true zz4; obtain ⟨ad101, e101, hx101_0⟩ := Kd.at_int HR0.out x11_1 p101 q101; cases e101; replace p101 := eq_true p101; replace q101 := eq_true q101; (go_wp2_with (first | ((with_reducible refine gate_callee (f := 55) rfl ?_); refine goesL_ (some 18) rfl rfl Try.func55 (by kernel_rfl) rfl #[.int .i64 (rd l0 x11_1), .int .i64 a1, .int .i64 a2] rfl zz3 ?_; (with_reducible refine (impl_within.calls (rd l0 x11_1) a1 a2 true _ A7.out).mono ?_); rintro e w' ⟨rfl, ⟨nd, rfl⟩⟩; refine ⟨_, rfl, ?_⟩))); go_roundg k1; (case measure => have := HK1.out; omega); case rel => exact ⟨(wrap64 (x11_1 + 1)), zz5, H', ⟨zz36⟩, by repeat (first | exact Drawn0.refl _ | apply Drawn0.step)⟩
def impl_MatrixOk.l0 : Nat → List (List Int) → List (List Int) → Int → Int → Option (Bool)
 | 0, _, _, _, _ => none
 | k + 1, x0, x8, x9, x10 => if x10 < x9 then (if 0 ≤ x10 then (if x10 < (x8.length : Int) then (if ((rd_L3 x8 x10).length : Int) = (x0.length : Int) then ((impl_allWithin.f k (rd_L3 x8 x10) (-500) 500).bind fun t102 => (if t102 = true then (impl_MatrixOk.l0 k x0 x8 x9 (wrap64 (x10 + 1))) else (some false))) else (some false)) else (none)) else (none)) else (some true)
def impl_MatrixOk.f (k : Nat) (l0 : List (List Int)) : Option (Bool) := if (l0.length : Int) > 6 then (some false) else (impl_MatrixOk.l0 k l0 l0 (l0.length : Int) 0)
theorem impl_MatrixOk.mono_l : ∀ k, (∀ y0 y1 y2 y3, LeO (impl_MatrixOk.l0 k y0 y1 y2 y3) (impl_MatrixOk.l0 (k + 1) y0 y1 y2 y3))
 | 0 => fun _ _ _ _ r h => by simp [impl_MatrixOk.l0] at h
 | k + 1 => by
  have ih0 := impl_MatrixOk.mono_l k
  ·intro y0 y1 y2 y3
   unfold impl_MatrixOk.l0
   exact zm12
theorem impl_MatrixOk.mono : ∀ a0 k, LeO (impl_MatrixOk.f k a0) (impl_MatrixOk.f (k + 1) a0) := by
 intro a0 k; have ih0 := impl_MatrixOk.mono_l k; unfold impl_MatrixOk.f; exact zm12
set_option maxHeartbeats 8000000 in
set_option maxRecDepth 100000 in
theorem impl_MatrixOk.calls (k : Nat) (A0 : Option Addr) (c0 : Nat) (l0 : List (List Int)) (r : Bool) (w : World) (hr0 : Kd.C (Kd.slice 3 (Kd.int .i64)) w A0 l0.length l0) (hc0 : l0.length ≤ c0) (h : impl_MatrixOk.f k l0 = some r) :
  Calls Try.prog 77 #[.slice A0 l0.length c0] w fun e w' => e = .returned (.bool r) ∧ Drawn0 w w' := by
 have HR0 := Aside0.mk hr0; have HC0 := Aside0.mk hc0; clear hr0 hc0; have H : (if (l0.length : Int) > 6 then (some false) else (impl_MatrixOk.l0 k l0 l0 (l0.length : Int) 0)) = some r := h; clear h; by_cases c2 : (l0.length : Int) > 6
 ·rw [if_pos c2] at H; have c2b0 : decide (6 < (l0.length : Int)) = true := decide_eq_true c2; have c2b1 : decide (6 < l0.length) = true := decide_eq_true (by omega); clear c2; obtain rfl := Option.some.inj H; go_enter Try.func77, Try.ntmps77; go_wp2; go_ret; exact ⟨zz5, by repeat (first | exact Drawn0.refl _ | apply Drawn0.step)⟩
 rw [if_neg c2] at H; have c2b0 : decide (6 < (l0.length : Int)) = false := decide_eq_false c2; have c2b1 : decide (6 < l0.length) = false := decide_eq_false (by omega); clear c2; have H' := Aside0.mk H; clear H; go_enter Try.func77, Try.ntmps77; go_wp2; (go_loopg [10] k (fun kq v10 w' => ∃ (x10_1 : Int), v10 = .int .i64 x10_1 ∧ Aside0 (impl_MatrixOk.l0 kq l0 l0 (l0.length : Int) x10_1 = some r) ∧ Aside0 (kq ≤ k) ∧ Drawn0 w w')); case atStart => exact ⟨(0), zz5, H', ⟨Nat.le_refl _⟩, by repeat (first | exact Drawn0.refl _ | apply Drawn0.step)⟩
 case round =>
  clear H'; (try clear c2); (try clear c2b0); (try clear c2b1); (try clear p2); obtain ⟨x10_1, rfl, HA, HK1, ⟨m1, rfl⟩⟩ := hrel
  cases gk with
  | zero => exact absurd HA.out (by simp [impl_MatrixOk.l0])
  | succ k1 =>
   have H := HA.out; clear HA; simp only [impl_MatrixOk.l0] at H; by_cases c3 : x10_1 < (l0.length : Int); rotate_left
   ·rw [if_neg c3] at H; have c3b0 := decide_eq_false c3; (try (have c3b8101_0 := c3b0; first | rw [hl101_0] at c3b8101_0 | rw [← hl101_0] at c3b8101_0)); clear c3; obtain rfl := Option.some.inj H; go_wp2; go_ret; exact ⟨zz5, by repeat (first | exact Drawn0.refl _ | apply Drawn0.step)⟩
   rw [if_pos c3] at H; have c3b0 := decide_eq_true c3; clear c3; by_cases c4 : 0 ≤ x10_1; rotate_left
   ·rw [if_neg c4] at H; exact absurd H (by simp)
   rw [if_pos c4] at H; have c4b0 := decide_eq_true c4; clear c4; by_cases c5 : x10_1 < (l0.length : Int); rotate_left
   ·rw [if_neg c5] at H; exact absurd H (by simp)
   rw [if_pos c5] at H; have c5b0 := decide_eq_true c5; clear c5; by_cases c6 : ((rd_L3 l0 x10_1).length : Int) = (l0.length : Int); rotate_left
   ·rw [if_neg c6] at H; have c6b0 : (((rd_L3 l0 x10_1).length : Int) == (l0.length : Int)) = false := beq_eq_false_iff_ne.mpr c6; have c6b1 : (((rd_L3 l0 x10_1).length : Int) != (l0.length : Int)) = true := bne_iff_ne.mpr c6; (have c6b2 : ((rd_L3 l0 x10_1).length == l0.length) = false := by first | simpa using c6 | (simp at c6 ⊢; omega)); obtain rfl := Option.some.inj H; have p101 : 0 ≤ (x10_1 : Int) := of_decide_eq_true zz4; have q101 : x10_1 < (l0.length : Int) := of_decide_eq_true zz4; obtain ⟨ad101, A101_0, c101_0, e101, hx101_0, hl101_0, hi101_0⟩ := at_L3 HR0.out x10_1 p101 q101; cases e101; have HR101_0 := Aside0.mk hi101_0; have HC101_0 := Aside0.mk hl101_0; clear hi101_0 hl101_0; replace p101 := eq_true p101; replace q101 := eq_true q101; go_wp2; go_ret; exact ⟨zz5, by repeat (first | exact Drawn0.refl _ | apply Drawn0.step)⟩
   rw [if_pos c6] at H; have c6b0 : (((rd_L3 l0 x10_1).length : Int) == (l0.length : Int)) = true := beq_iff_eq.mpr c6; have c6b1 : (((rd_L3 l0 x10_1).length : Int) != (l0.length : Int)) = false := bne_eq_false_iff_eq.mpr c6; (have c6b2 : ((rd_L3 l0 x10_1).length == l0.length) = true := by first | simpa using c6 | (simp at c6 ⊢; omega)); clear c6; replace H := Option.bind_eq_some_iff.mp H; obtain ⟨t102, A70, H⟩ := H; (try dsimp only at H); have A7 := Aside0.mk A70; clear A70; by_cases c8 : t102 = true; rotate_left
   ·replace c8 := Bool.eq_false_iff.mpr c8; subst c8; rw [if_neg (show ¬ (false = true) by decide)] at H; obtain rfl := Option.some.inj H; have p101 : 0 ≤ (x10_1 : Int) := of_decide_eq_true zz4; have q101 : x10_1 < (l0.length : Int) := of_decide_eq_true zz4; obtain ⟨ad101, A101_0, c101_0, e101, hx101_0, hl101_0, hi101_0⟩ := at_L3 HR0.out x10_1 p101 q101; cases e101; have HR101_0 := Aside0.mk hi101_0; have HC101_0 := Aside0.mk hl101_0; clear hi101_0 hl101_0; replace p101 := eq_true p101; replace q101 := eq_true q101; (go_wp2_with (first | (go_at_call 50; (with_reducible refine (impl_allWithin.calls k1 _ _ (rd_L3 l0 x10_1) (-500) 500 false _ ?side1 ?side2 A7.out).mono ?_); (case side1 => repeat (first | exact HR101_0.out | (with_reducible refine Kd.C_alloc ?_ _) | (with_reducible refine Kd.C_drewN ?_ _) | (with_reducible refine Kd.C_drew ?_))); (case side2 => exact HC101_0.out); rintro e w' ⟨rfl, ⟨nd, rfl⟩⟩))); go_ret; exact ⟨zz5, by repeat (first | exact Drawn0.refl _ | apply Drawn0.step)⟩
   subst c8; rw [if_pos rfl] at H; have H' := Aside0.mk H; clear H; have p101 : 0 ≤ (x10_1 : Int) := of_decide_eq_true zz4; have q101 : x10_1 < (l0.length : Int) := of_decide_eq_true zz4; obtain ⟨ad101, A101_0, c101_0, e101, hx101_0, hl101_0, hi101_0⟩ := at_L3 HR0.out x10_1 p101 q101; cases e101; have HR101_0 := Aside0.mk hi101_0; have HC101_0 := Aside0.mk hl101_0; clear hi101_0 hl101_0; replace p101 := eq_true p101; replace q101 := eq_true q101; (go_wp2_with (first | (go_at_call 50; (with_reducible refine (impl_allWithin.calls k1 _ _ (rd_L3 l0 x10_1) (-500) 500 true _ ?side1 ?side2 A7.out).mono ?_); (case side1 => repeat (first | exact HR101_0.out | (with_reducible refine Kd.C_alloc ?_ _) | (with_reducible refine Kd.C_drewN ?_ _) | (with_reducible refine Kd.C_drew ?_))); (case side2 => exact HC101_0.out); rintro e w' ⟨rfl, ⟨nd, rfl⟩⟩))); go_roundg k1; (case measure => have := HK1.out; omega); case rel => exact ⟨(wrap64 (x10_1 + 1)), zz5, H', ⟨zz36⟩, by repeat (first | exact Drawn0.refl _ | apply Drawn0.step)⟩
def impl_bitsOf.l0 : Nat → Int → List Int → Int → Option (List Int)
 | 0, _, _, _ => none
 | k + 1, x0, x3, x4 => if 0 ≤ x4 then (if (shr .i64 x0 x4) > 0 then (if (Go.bits .and .i64 (shr .i64 x0 x4) 1) = 1 then (if x3.length < 17592186044416 then (impl_bitsOf.l0 k x0 (x3 ++ [x4]) (wrap64 (x4 + 1))) else (none)) else (impl_bitsOf.l0 k x0 x3 (wrap64 (x4 + 1)))) else (some x3)) else (none)
def impl_bitsOf.f (k : Nat) (a0 : Int) : Option (List Int) := impl_bitsOf.l0 k a0 ([] : List Int) 0
theorem impl_bitsOf.mono_l : ∀ k, (∀ y0 y1 y2, LeO (impl_bitsOf.l0 k y0 y1 y2) (impl_bitsOf.l0 (k + 1) y0 y1 y2))
 | 0 => fun _ _ _ r h => by simp [impl_bitsOf.l0] at h
 | k + 1 => by
  have ih0 := impl_bitsOf.mono_l k
  ·intro y0 y1 y2
   unfold impl_bitsOf.l0
   exact zm0
theorem impl_bitsOf.mono : ∀ a0 k, LeO (impl_bitsOf.f k a0) (impl_bitsOf.f (k + 1) a0) := by
 intro a0 k; have ih0 := impl_bitsOf.mono_l k; unfold impl_bitsOf.f; exact zm0
set_option maxHeartbeats 8000000 in
set_option maxRecDepth 100000 in
theorem impl_bitsOf.calls (k : Nat) (a0 : Int) (r : List Int) (w : World) (h : impl_bitsOf.f k a0 = some r) :
  Calls Try.prog 78 #[.int .i64 a0] w fun e w' => ∃ v0_ : Value, e = .returned (v0_) ∧ Kd.R (Kd.int .i64) 3 w' w.heap.size (fun _ => True) v0_ r ∧ Below w.heap.size w w' := by
 have HB := Aside0.mk (Below.refl w.heap.size w); have H : (impl_bitsOf.l0 k a0 ([] : List Int) 0) = some r := h; clear h; have H' := Aside0.mk H; clear H; go_enter Try.func78, Try.ntmps78; go_wp2; (go_loopg [3, 4] k (fun kq v3 v4 w' => ∃ (x3_1 : List Int) (x4_1 : Int), v4 = .int .i64 x4_1 ∧ Aside0 (impl_bitsOf.l0 kq a0 x3_1 x4_1 = some r) ∧ Aside0 (kq ≤ k) ∧ Aside0 (Kd.R (Kd.int .i64) 3 w' w.heap.size (fun _ => True) v3 x3_1) ∧ Aside0 (Below w.heap.size w w'))); case atStart => exact ⟨(([] : List Int)), (0), zz5, H', ⟨Nat.le_refl _⟩, ⟨zz24⟩, ⟨zz1⟩⟩
 case round =>
  clear H'; obtain ⟨x3_1, x4_1, rfl, HA, HK1, HO_3, HB⟩ := hrel
  cases gk with
  | zero => exact absurd HA.out (by simp [impl_bitsOf.l0])
  | succ k1 =>
   have H := HA.out; clear HA; simp only [impl_bitsOf.l0] at H; by_cases c2 : 0 ≤ x4_1; rotate_left
   ·rw [if_neg c2] at H; exact absurd H (by simp)
   rw [if_pos c2] at H; have c2b0 := eq_true c2; have c2b1 : decide (0 ≤ x4_1) = true := decide_eq_true c2; clear c2; obtain ⟨ji3, hji3⟩ : ∃ j_ : Int, (shr .i64 a0 x4_1) = j_ := ⟨_, rfl⟩; (replace H : (if (ji3) > 0 then (if (Go.bits .and .i64 (ji3) 1) = 1 then (if x3_1.length < 17592186044416 then (impl_bitsOf.l0 k1 a0 (x3_1 ++ [x4_1]) (wrap64 (x4_1 + 1))) else (none)) else (impl_bitsOf.l0 k1 a0 x3_1 (wrap64 (x4_1 + 1)))) else (some x3_1)) = some r := by first | (rw [hji3] at H; exact H) | (simp only [hji3] at H ⊢; exact H)); have hji3_ : (a0 / 2 ^ min x4_1.toNat 64) = ji3 := hji3; have hji3z : x4_1 ≤ 64 → (a0 / 2 ^ x4_1.toNat) = ji3 := shr_small hji3; by_cases c4 : (ji3) > 0; rotate_left
   ·rw [if_neg c4] at H; have c4b0 : decide (0 < (ji3)) = false := decide_eq_false c4; clear c4; obtain rfl := Option.some.inj H; go_wp2; go_ret; exact ⟨_, by first | rfl | (simp [errW_none, errW_some] <;> rfl) | (simp only [← hji3]; first | rfl | (simp [errW_none, errW_some] <;> rfl)) | (simp [*, errW_none, errW_some] <;> rfl), zz9, zz1⟩
   rw [if_pos c4] at H; have c4b0 : decide (0 < (ji3)) = true := decide_eq_true c4; clear c4; have c5b0 := eq_true (of_decide_eq_true zz4 : 0 ≤ x4_1); by_cases c7 : (Go.bits .and .i64 (ji3) 1) = 1; rotate_left
   ·rw [if_neg c7] at H; have c7b0 : ((Go.bits .and .i64 (ji3) 1) == 1) = false := beq_eq_false_iff_ne.mpr c7; have c7b1 : ((Go.bits .and .i64 (ji3) 1) != 1) = true := bne_iff_ne.mpr c7; have H' := Aside0.mk H; clear H; go_wp2; go_roundg k1; (case measure => have := HK1.out; omega); case rel => exact ⟨(x3_1), (wrap64 (x4_1 + 1)), zz5, H', ⟨zz36⟩, ⟨zz9⟩, ⟨zz1⟩⟩
   rw [if_pos c7] at H; have c7b0 : ((Go.bits .and .i64 (ji3) 1) == 1) = true := beq_iff_eq.mpr c7; have c7b1 : ((Go.bits .and .i64 (ji3) 1) != 1) = false := bne_eq_false_iff_eq.mpr c7; clear c7; by_cases c8 : x3_1.length < 17592186044416; rotate_left
   ·rw [if_neg c8] at H; exact absurd H (by simp)
   rw [if_pos c8] at H; have LMc8 := Aside0.mk c8; clear c8; obtain ⟨y101, hy_⟩ : ∃ y_ : List Int, y_ = (x3_1 ++ [x4_1]) := ⟨_, rfl⟩; (replace H : (impl_bitsOf.l0 k1 a0 y101 (wrap64 (x4_1 + 1))) = some r := zzY); have Ny101 := Aside0.mk hy_; clear hy_; have H' := Aside0.mk H; clear H; (go_wp2_with (first | ((with_reducible refine gate_builtin (b := .append) (xs := #[.tmp 16, .tmp 18]) rfl ?_); at_builtin; refine Kd.R_append (Kd.int .i64) (w0 := w) w.heap.size rfl (.tmp 16) (.tmp 18) 26 3 (.int .i64 0) 8 rfl Try.underlying26 info3 rfl (by decide) (by omega) u3 x3_1 x4_1 [.int .i64 x4_1] (fun _ => True) (fun _ => False) rfl rfl ?aP (fun _ hk => hk.elim) ?aF ?aO ?aB ?aS ?aL ?_; (case aP => exact rfl); (case aB => exact zz1); (case aF => exact (fun _ _ => trivial)); (case aO => exact zz9); (case aS => exact (below_size zz1)); (case aL => have := LMc8.out; omega); intro v102 w9 ho hb hg hat; rw [← Ny101.out] at ho; have n_ := zA2 hb ho; clear HB HO_3; obtain ⟨HB, HO103⟩ := n_; clear ho hb hg hat))); go_roundg k1; (case measure => have := HK1.out; omega); case rel => exact ⟨(y101), (wrap64 (x4_1 + 1)), zz5, H', ⟨zz36⟩, ⟨by (with_reducible repeat (first | apply Kd.R_alloc | apply Kd.R_drewN | apply Kd.R_drew)); exact HO103.out⟩, ⟨zz1⟩⟩
def impl_magnitude.f (a0 : Int) : Option (Int) := some (mx a0 (wrap64 (-a0)))
set_option maxHeartbeats 8000000 in
set_option maxRecDepth 100000 in
theorem impl_magnitude.calls (a0 : Int) (r : Int) (w : World) (h : impl_magnitude.f a0 = some r) :
  Calls Try.prog 99 #[.int .i64 a0] w fun e w' => e = .returned (.int .i64 r) ∧ Below w.heap.size w w' := by
 have HB := Aside0.mk (Below.refl w.heap.size w); have H : (some (mx a0 (wrap64 (-a0)))) = some r := h; clear h; obtain ⟨ji2, hji2⟩ : ∃ j_ : Int, (mx a0 (wrap64 (-a0))) = j_ := ⟨_, rfl⟩; (replace H : (some ji2) = some r := by first | (rw [hji2] at H; exact H) | (simp only [hji2] at H ⊢; exact H)); have hji2_ : (if a0 < (wrap64 (-a0)) then (wrap64 (-a0)) else a0) = ji2 := hji2; obtain rfl := Option.some.inj H; go_enter Try.func99, Try.ntmps99; go_wp2; go_ret; exact ⟨by first | rfl | (simp [errW_none, errW_some] <;> rfl) | (simp only [← hji2]; first | rfl | (simp [errW_none, errW_some] <;> rfl)) | (simp [*, errW_none, errW_some] <;> rfl), zz1⟩
def impl_divisor.l0 : Nat → Int → Int → Option (Int)
 | 0, _, _ => none
 | k + 1, x0, x1 => if x1 = 0 then ((impl_magnitude.f x0).bind fun t101 => (some t101)) else (impl_divisor.l0 k x1 (Int.tmod x0 x1))
def impl_divisor.f (k : Nat) (a0 : Int) (a1 : Int) : Option (Int) := impl_divisor.l0 k a0 a1
theorem impl_divisor.mono_l : ∀ k, (∀ y0 y1, LeO (impl_divisor.l0 k y0 y1) (impl_divisor.l0 (k + 1) y0 y1))
 | 0 => fun _ _ r h => by simp [impl_divisor.l0] at h
 | k + 1 => by
  have ih0 := impl_divisor.mono_l k
  ·intro y0 y1
   unfold impl_divisor.l0
   exact zm0
theorem impl_divisor.mono : ∀ a0 a1 k, LeO (impl_divisor.f k a0 a1) (impl_divisor.f (k + 1) a0 a1) := by
 intro a0 a1 k; have ih0 := impl_divisor.mono_l k; unfold impl_divisor.f; exact zm0
set_option maxHeartbeats 8000000 in
set_option maxRecDepth 100000 in
theorem impl_divisor.calls (k : Nat) (a0 : Int) (a1 : Int) (r : Int) (w : World) (h : impl_divisor.f k a0 a1 = some r) :
  Calls Try.prog 79 #[.int .i64 a0, .int .i64 a1] w fun e w' => e = .returned (.int .i64 r) ∧ Below w.heap.size w w' := by
 have HB := Aside0.mk (Below.refl w.heap.size w); have H : (impl_divisor.l0 k a0 a1) = some r := h; clear h; have H' := Aside0.mk H; clear H; go_enter Try.func79, Try.ntmps79; go_wp2; (repeat (go_quiet (fail); try go_wp2)); (go_loopg [0, 1] k (fun kq v0 v1 w' => ∃ (x0_1 : Int) (x1_1 : Int), v0 = .int .i64 x0_1 ∧ v1 = .int .i64 x1_1 ∧ Aside0 (impl_divisor.l0 kq x0_1 x1_1 = some r) ∧ Aside0 (kq ≤ k) ∧ Aside0 (Below w.heap.size w w'))); case atStart => exact ⟨(a0), (a1), zz5, zz5, H', ⟨Nat.le_refl _⟩, ⟨zz1⟩⟩
 case round =>
  clear H'; (try clear p2); obtain ⟨x0_1, x1_1, rfl, rfl, HA, HK1, HB⟩ := hrel
  cases gk with
  | zero => exact absurd HA.out (by simp [impl_divisor.l0])
  | succ k1 =>
   have H := HA.out; clear HA; simp only [impl_divisor.l0] at H; by_cases c3 : x1_1 = 0; rotate_left
   ·rw [if_neg c3] at H; have c3b0 : (x1_1 == 0) = false := beq_eq_false_iff_ne.mpr c3; have c3b1 : (x1_1 != 0) = true := bne_iff_ne.mpr c3; have H' := Aside0.mk H; clear H; go_wp2; (repeat (go_quiet (fail); try go_wp2)); go_roundg k1; (case measure => have := HK1.out; omega); case rel => exact ⟨(x1_1), (Int.tmod x0_1 x1_1), zz5, zz5, H', ⟨zz36⟩, ⟨zz1⟩⟩
   rw [if_pos c3] at H; have c3b0 : (x1_1 == 0) = true := beq_iff_eq.mpr c3; have c3b1 : (x1_1 != 0) = false := bne_eq_false_iff_eq.mpr c3; clear c3; replace H := Option.bind_eq_some_iff.mp H; obtain ⟨t101, A40, H⟩ := H; (try dsimp only at H); have A4 := Aside0.mk A40; clear A40; obtain rfl := Option.some.inj H; (go_wp2_with (first | (go_at_call 99; (with_reducible refine (impl_magnitude.calls x0_1 t101 _ A4.out).mono ?_); rintro e w5 ⟨rfl, hb⟩; replace HB := Aside0.mk (below_step zz1 hb); (try clear hb); (try clear hb2); (try clear hk); (try clear hi)))); (repeat (go_quiet (first | (go_at_call 99; (with_reducible refine (impl_magnitude.calls x0_1 t101 _ A4.out).mono ?_); rintro e w5 ⟨rfl, hb⟩; replace HB := Aside0.mk (below_step zz1 hb); (try clear hb); (try clear hb2); (try clear hk); (try clear hi))); try go_wp2_with (first | (go_at_call 99; (with_reducible refine (impl_magnitude.calls x0_1 t101 _ A4.out).mono ?_); rintro e w5 ⟨rfl, hb⟩; replace HB := Aside0.mk (below_step zz1 hb); (try clear hb); (try clear hb2); (try clear hk); (try clear hi))))); go_ret; exact ⟨zz8, zz1⟩
mutual
def impl_determinant.l0 : Nat → List (List Int) → List Int → Int → Int → Int → List Int → Int → Int → Option (Int)
 | 0, _, _, _, _, _, _, _, _ => none
 | k + 1, x0, x1, x2, x7, x8, x19, x20, x21 => if x21 < x20 then (if 0 ≤ x21 then (if x21 < (x19.length : Int) then (if (Go.bits .and .i64 (shr .i64 x2 x21) 1) = 0 then (impl_determinant.l0 k x0 x1 x2 x7 x8 x19 x20 (wrap64 (x21 + 1))) else (if (rd x19 x21) = 0 then (impl_determinant.l0 k x0 x1 x2 x7 (wrap64 (-x8)) x19 x20 (wrap64 (x21 + 1))) else (if 1 ≤ (x1.length : Int) then ((impl_determinant.f k x0 (x1.drop 1) (Go.bits .andNot .i64 x2 (shl .i64 1 x21))).bind fun t105 => (impl_determinant.l0 k x0 x1 x2 (wrap64 (x7 + (wrap64 ((wrap64 (x8 * (rd x19 x21))) * t105)))) (wrap64 (-x8)) x19 x20 (wrap64 (x21 + 1)))) else (none)))) else (none)) else (none)) else (some x7)
def impl_determinant.f : Nat → List (List Int) → List Int → Int → Option (Int)
 | 0, _, _, _ => none
 | k + 1, l0, l1, a2 => if (l1.length : Int) = 0 then (some 1) else (if 0 < (l1.length : Int) then (if 0 ≤ (rd l1 0) then (if (rd l1 0) < (l0.length : Int) then (impl_determinant.l0 k l0 l1 a2 0 1 (rd_L3 l0 (rd l1 0)) ((rd_L3 l0 (rd l1 0)).length : Int) 0) else (none)) else (none)) else (none))
end
theorem impl_determinant.mono_l : ∀ k, (∀ y0 y1 y2, LeO (impl_determinant.f k y0 y1 y2) (impl_determinant.f (k + 1) y0 y1 y2)) ∧ (∀ y0 y1 y2 y3 y4 y5 y6 y7, LeO (impl_determinant.l0 k y0 y1 y2 y3 y4 y5 y6 y7) (impl_determinant.l0 (k + 1) y0 y1 y2 y3 y4 y5 y6 y7))
 | 0 => ⟨fun _ _ _ r h => by simp [impl_determinant.f] at h, fun _ _ _ _ _ _ _ _ r h => by simp [impl_determinant.l0] at h⟩
 | k + 1 => by
  obtain ⟨ih0, ih1⟩ := impl_determinant.mono_l k
  refine ⟨?_, ?_⟩
  ·intro y0 y1 y2
   unfold impl_determinant.f
   exact zm1
  ·intro y0 y1 y2 y3 y4 y5 y6 y7
   unfold impl_determinant.l0
   exact zm1
theorem impl_determinant.mono : ∀ a0 a1 a2 k, LeO (impl_determinant.f k a0 a1 a2) (impl_determinant.f (k + 1) a0 a1 a2) := by
 intro a0 a1 a2 k; obtain ⟨ih0, ih1⟩ := impl_determinant.mono_l k; exact ih0 a0 a1 a2
def impl_determinant.T9 : Bool × List (List Nat × List Nat) := (true, [([], []), ([], []), ([], []), ([1, 2], [1, 2]), ([], []), ([], []), ([5], [5]), ([], []), ([], []), ([8], [8]), ([7, 9], [7, 9]), ([4, 6, 10], [4, 6, 10]), ([3, 11], [3, 11]), ([0, 12], [0, 12]), ([13, 11, 0, 1, 2, 3, 4, 5, 6, 7, 8, 9, 10, 11, 12, 13], [0, 13])])
def impl_determinant.B9 : List Nat := [0, 0, 0, 6, 0, 0, 32, 0, 0, 256, 896, 2032, 4094, 8191, 16383]
theorem impl_determinant.tab9 : rtab .any (opsOf Try.f80 9) = impl_determinant.T9 := by kernel_rfl
theorem impl_determinant.bits9 : waitsOk impl_determinant.T9.2 impl_determinant.B9 = true := by kernel_rfl
set_option maxHeartbeats 8000000 in
set_option maxRecDepth 100000 in
theorem impl_determinant.calls (k : Nat) : ∀ (A0 : Option Addr) (c0 : Nat) (l0 : List (List Int)) (A1 : Option Addr) (c1 : Nat) (l1 : List Int) (a2 : Int) (r : Int) (w : World) (hr0 : Kd.C (Kd.slice 3 (Kd.int .i64)) w A0 l0.length l0) (hc0 : l0.length ≤ c0) (hr1 : Kd.C (Kd.int .i64) w A1 l1.length l1) (hc1 : l1.length ≤ c1) (h : impl_determinant.f k l0 l1 a2 = some r),
  Calls Try.prog 80 #[.slice A0 l0.length c0, .slice A1 l1.length c1, .int .i64 a2] w fun e w' => e = .returned (.int .i64 r) ∧ Below w.heap.size w w' := by
 induction k using Nat.strongRecOn with
 | _ k ih =>
 intro A0 c0 l0 A1 c1 l1 a2 r w hr0 hc0 hr1 hc1 h
 cases k with
 | zero => exact absurd h (by simp [impl_determinant.f])
 | succ k =>
 simp only [impl_determinant.f] at h; have HR0 := Aside0.mk hr0; have HC0 := Aside0.mk hc0; clear hr0 hc0; have HR1 := Aside0.mk hr1; have HC1 := Aside0.mk hc1; clear hr1 hc1; have HB := Aside0.mk (Below.refl w.heap.size w); have H : (if (l1.length : Int) = 0 then (some 1) else (if 0 < (l1.length : Int) then (if 0 ≤ (rd l1 0) then (if (rd l1 0) < (l0.length : Int) then (impl_determinant.l0 k l0 l1 a2 0 1 (rd_L3 l0 (rd l1 0)) ((rd_L3 l0 (rd l1 0)).length : Int) 0) else (none)) else (none)) else (none))) = some r := h; clear h; by_cases c4 : (l1.length : Int) = 0
 ·rw [if_pos c4] at H; have c4b0 : ((l1.length : Int) == 0) = true := beq_iff_eq.mpr c4; have c4b1 : ((l1.length : Int) != 0) = false := bne_eq_false_iff_eq.mpr c4; clear c4; obtain rfl := Option.some.inj H; go_enter Try.func80, Try.ntmps80; go_wp2; go_ret; exact ⟨zz8, zz1⟩
 rw [if_neg c4] at H; have c4b0 : ((l1.length : Int) == 0) = false := beq_eq_false_iff_ne.mpr c4; have c4b1 : ((l1.length : Int) != 0) = true := bne_iff_ne.mpr c4; (have c4b2 : ¬ (l1 = []) := fun h_ => c4 (by rw [h_]; rfl)); by_cases c5 : 0 < (l1.length : Int); rotate_left
 ·rw [if_neg c5] at H; exact absurd H (by simp)
 rw [if_pos c5] at H; have c5b0 := decide_eq_true c5; have c5b1 : decide (0 < l1.length) = true := decide_eq_true (by omega); clear c5; by_cases c6 : 0 ≤ (rd l1 0); rotate_left
 ·rw [if_neg c6] at H; exact absurd H (by simp)
 rw [if_pos c6] at H; have c6b0 := decide_eq_true c6; clear c6; by_cases c7 : (rd l1 0) < (l0.length : Int); rotate_left
 ·rw [if_neg c7] at H; exact absurd H (by simp)
 rw [if_pos c7] at H; have c7b0 := decide_eq_true c7; clear c7; have H' := Aside0.mk H; clear H; have p101 : 0 ≤ (0 : Int) := (by omega); have q101 : 0 < (l1.length : Int) := of_decide_eq_true zz4; obtain ⟨ad101, e101, hx101_0⟩ := Kd.at_int HR1.out 0 p101 q101; cases e101; have qi101 : (0 < l1.length) = True := eq_true (by omega); (try rw [show ((0 : Int)).toNat = 0 from rfl] at hx101_0); (try rw [Addr.add_zero'] at hx101_0); replace p101 := eq_true p101; replace q101 := eq_true q101; have p102 : 0 ≤ ((rd l1 0) : Int) := of_decide_eq_true zz4; have q102 : (rd l1 0) < (l0.length : Int) := of_decide_eq_true zz4; obtain ⟨ad102, A102_0, c102_0, e102, hx102_0, hl102_0, hi102_0⟩ := at_L3 HR0.out (rd l1 0) p102 q102; cases e102; have HR102_0 := Aside0.mk hi102_0; have HC102_0 := Aside0.mk hl102_0; clear hi102_0 hl102_0; replace p102 := eq_true p102; replace q102 := eq_true q102; go_enter Try.func80, Try.ntmps80; go_wp2; (go_loopg [7, 8, 21] k (fun kq v7 v8 v21 w' => ∃ (x7_1 : Int) (x8_1 : Int) (x21_1 : Int), v7 = .int .i64 x7_1 ∧ v8 = .int .i64 x8_1 ∧ v21 = .int .i64 x21_1 ∧ Aside0 (impl_determinant.l0 kq l0 l1 a2 x7_1 x8_1 (rd_L3 l0 (rd l1 0)) ((rd_L3 l0 (rd l1 0)).length : Int) x21_1 = some r) ∧ Aside0 (kq ≤ k) ∧ Aside0 (Below w.heap.size w w'))); case atStart => exact ⟨(0), (1), (0), zz5, zz5, zz5, H', ⟨Nat.le_refl _⟩, ⟨zz1⟩⟩
 case round =>
  clear H'; (try clear c1); (try clear p1); (try clear q1); (try clear hx1); (try clear qi1); (try clear p2); (try clear c4); (try clear c4b0); (try clear c4b1); (try clear c4b2); (try clear c5); (try clear c5b0); (try clear c5b1); (try clear c6); (try clear c6b0); (try clear c7); (try clear c7b0); (try clear hx101_0); (try clear hx102_0); (try clear p101); (try clear p102); (try clear q101); (try clear q102); obtain ⟨x7_1, x8_1, x21_1, rfl, rfl, rfl, HA, HK1, HB⟩ := hrel
  cases gk with
  | zero => exact absurd HA.out (by simp [impl_determinant.l0])
  | succ k1 =>
   have H := HA.out; clear HA; simp only [impl_determinant.l0] at H; by_cases c8 : x21_1 < ((rd_L3 l0 (rd l1 0)).length : Int); rotate_left
   ·rw [if_neg c8] at H; have c8b0 := decide_eq_false c8; (try (have c8b8102_0 := c8b0; first | rw [hl102_0] at c8b8102_0 | rw [← hl102_0] at c8b8102_0)); clear c8; obtain rfl := Option.some.inj H; go_wp2; go_ret; exact ⟨zz8, zz1⟩
   rw [if_pos c8] at H; have c8b0 := decide_eq_true c8; (try (have c8b8102_0 := c8b0; first | rw [hl102_0] at c8b8102_0 | rw [← hl102_0] at c8b8102_0)); clear c8; by_cases c9 : 0 ≤ x21_1; rotate_left
   ·rw [if_neg c9] at H; exact absurd H (by simp)
   rw [if_pos c9] at H; have c9b0 := decide_eq_true c9; clear c9; by_cases c10 : x21_1 < ((rd_L3 l0 (rd l1 0)).length : Int); rotate_left
   ·rw [if_neg c10] at H; exact absurd H (by simp)
   rw [if_pos c10] at H; have c10b0 := decide_eq_true c10; (try (have c10b8102_0 := c10b0; first | rw [hl102_0] at c10b8102_0 | rw [← hl102_0] at c10b8102_0)); clear c10; have c11b0 := eq_true (of_decide_eq_true zz4 : 0 ≤ x21_1); obtain ⟨ji12, hji12⟩ : ∃ j_ : Int, (shr .i64 a2 x21_1) = j_ := ⟨_, rfl⟩; (replace H : (if (Go.bits .and .i64 (ji12) 1) = 0 then (impl_determinant.l0 k1 l0 l1 a2 x7_1 x8_1 (rd_L3 l0 (rd l1 0)) ((rd_L3 l0 (rd l1 0)).length : Int) (wrap64 (x21_1 + 1))) else (if (rd (rd_L3 l0 (rd l1 0)) x21_1) = 0 then (impl_determinant.l0 k1 l0 l1 a2 x7_1 (wrap64 (-x8_1)) (rd_L3 l0 (rd l1 0)) ((rd_L3 l0 (rd l1 0)).length : Int) (wrap64 (x21_1 + 1))) else (if 1 ≤ (l1.length : Int) then ((impl_determinant.f k1 l0 (l1.drop 1) (Go.bits .andNot .i64 a2 (shl .i64 1 x21_1))).bind fun t105 => (impl_determinant.l0 k1 l0 l1 a2 (wrap64 (x7_1 + (wrap64 ((wrap64 (x8_1 * (rd (rd_L3 l0 (rd l1 0)) x21_1))) * t105)))) (wrap64 (-x8_1)) (rd_L3 l0 (rd l1 0)) ((rd_L3 l0 (rd l1 0)).length : Int) (wrap64 (x21_1 + 1)))) else (none)))) = some r := by first | (rw [hji12] at H; exact H) | (simp only [hji12] at H ⊢; exact H)); have hji12_ : (a2 / 2 ^ min x21_1.toNat 64) = ji12 := hji12; have hji12z : x21_1 ≤ 64 → (a2 / 2 ^ x21_1.toNat) = ji12 := shr_small hji12; by_cases c13 : (Go.bits .and .i64 (ji12) 1) = 0
   ·rw [if_pos c13] at H; have c13b0 : ((Go.bits .and .i64 (ji12) 1) == 0) = true := beq_iff_eq.mpr c13; have c13b1 : ((Go.bits .and .i64 (ji12) 1) != 0) = false := bne_eq_false_iff_eq.mpr c13; clear c13; have H' := Aside0.mk H; clear H; have p103 : 0 ≤ (x21_1 : Int) := of_decide_eq_true zz4; have q103 : x21_1 < ((rd_L3 l0 (rd l1 0)).length : Int) := of_decide_eq_true zz4; obtain ⟨ad103, e103, hx103_0⟩ := Kd.at_int HR102_0.out x21_1 p103 q103; cases e103; replace hx103_0 := (HB.out.cell (World.block_lt_of_cell? w _ hx103_0)).trans hx103_0; replace p103 := eq_true p103; replace q103 := eq_true q103; go_wp2; go_roundg k1; (case measure => have := HK1.out; omega); case rel => exact ⟨(x7_1), (x8_1), (wrap64 (x21_1 + 1)), zz5, zz5, zz5, H', ⟨zz36⟩, ⟨zz1⟩⟩
   rw [if_neg c13] at H; have c13b0 : ((Go.bits .and .i64 (ji12) 1) == 0) = false := beq_eq_false_iff_ne.mpr c13; have c13b1 : ((Go.bits .and .i64 (ji12) 1) != 0) = true := bne_iff_ne.mpr c13; by_cases c14 : (rd (rd_L3 l0 (rd l1 0)) x21_1) = 0
   ·rw [if_pos c14] at H; have c14b0 : ((rd (rd_L3 l0 (rd l1 0)) x21_1) == 0) = true := beq_iff_eq.mpr c14; have c14b1 : ((rd (rd_L3 l0 (rd l1 0)) x21_1) != 0) = false := bne_eq_false_iff_eq.mpr c14; clear c14; have H' := Aside0.mk H; clear H; have p103 : 0 ≤ (x21_1 : Int) := of_decide_eq_true zz4; have q103 : x21_1 < ((rd_L3 l0 (rd l1 0)).length : Int) := of_decide_eq_true zz4; obtain ⟨ad103, e103, hx103_0⟩ := Kd.at_int HR102_0.out x21_1 p103 q103; cases e103; replace hx103_0 := (HB.out.cell (World.block_lt_of_cell? w _ hx103_0)).trans hx103_0; replace p103 := eq_true p103; replace q103 := eq_true q103; go_wp2; go_roundg k1; (case measure => have := HK1.out; omega); case rel => exact ⟨(x7_1), (wrap64 (-x8_1)), (wrap64 (x21_1 + 1)), zz5, zz5, zz5, H', ⟨zz36⟩, ⟨zz1⟩⟩
   rw [if_neg c14] at H; have c14b0 : ((rd (rd_L3 l0 (rd l1 0)) x21_1) == 0) = false := beq_eq_false_iff_ne.mpr c14; have c14b1 : ((rd (rd_L3 l0 (rd l1 0)) x21_1) != 0) = true := bne_iff_ne.mpr c14; by_cases c15 : 1 ≤ (l1.length : Int); rotate_left
   ·rw [if_neg c15] at H; exact absurd H (by simp)
   rw [if_pos c15] at H; have c15b0 := eq_true c15; have c15b1 : decide (1 ≤ (l1.length : Int)) = true := decide_eq_true c15; clear c15; have c16b0 := eq_true (of_decide_eq_true zz4 : 0 ≤ x21_1); obtain ⟨ji17, hji17⟩ : ∃ j_ : Int, (shl .i64 1 x21_1) = j_ := ⟨_, rfl⟩; (replace H : ((impl_determinant.f k1 l0 (l1.drop 1) (Go.bits .andNot .i64 a2 (ji17))).bind fun t105 => (impl_determinant.l0 k1 l0 l1 a2 (wrap64 (x7_1 + (wrap64 ((wrap64 (x8_1 * (rd (rd_L3 l0 (rd l1 0)) x21_1))) * t105)))) (wrap64 (-x8_1)) (rd_L3 l0 (rd l1 0)) ((rd_L3 l0 (rd l1 0)).length : Int) (wrap64 (x21_1 + 1)))) = some r := by first | (rw [hji17] at H; exact H) | (simp only [hji17] at H ⊢; exact H)); have hji17_ : (IntKind.i64.wrap (1 * 2 ^ min x21_1.toNat 64)) = ji17 := hji17; have hji17z : x21_1 ≤ 64 → (IntKind.i64.wrap (1 * 2 ^ x21_1.toNat)) = ji17 := shl_small hji17; (have hji17u : (IntKind.i64.wrap (2 ^ min x21_1.toNat 64)) = ji17 := by have h_ := hji17_; rw [Int.one_mul] at h_; exact h_); (have hji17v : x21_1 ≤ 64 → (IntKind.i64.wrap (2 ^ x21_1.toNat)) = ji17 := fun hle_ => by have h_ := hji17z hle_; rw [Int.one_mul] at h_; exact h_); have hji17y : (wrap64 (1 * 2 ^ min x21_1.toNat 64)) = ji17 := (i64_w _).symm.trans hji17_; (have hji17x : x21_1 ≤ 64 → (wrap64 (1 * 2 ^ x21_1.toNat)) = ji17 := fun h_ => (i64_w _).symm.trans (hji17z h_)); replace H := Option.bind_eq_some_iff.mp H; obtain ⟨t105, A180, H⟩ := H; (try dsimp only at H); have A18 := Aside0.mk A180; clear A180; have H' := Aside0.mk H; clear H; have p103 : 0 ≤ (x21_1 : Int) := of_decide_eq_true zz4; have q103 : x21_1 < ((rd_L3 l0 (rd l1 0)).length : Int) := of_decide_eq_true zz4; obtain ⟨ad103, e103, hx103_0⟩ := Kd.at_int HR102_0.out x21_1 p103 q103; cases e103; replace hx103_0 := (HB.out.cell (World.block_lt_of_cell? w _ hx103_0)).trans hx103_0; replace p103 := eq_true p103; replace q103 := eq_true q103; (try go_wp2); replace HB := Aside0.mk (below_drew1 HB.out); obtain ⟨i020, hi020, _, hsz20, _⟩ := info_parts info3; obtain ⟨A20, hcut20, hA20, hC20⟩ := print_drop_of (P := Try.prog) (Value.int .i64) 0 26 3 .i64 Try.underlying26 hi020 hsz20 (some ad101) c1 l1 1 (by omega) (of_decide_eq_true zz4) HC1.out; have HR104 := Aside0.mk (Kd.C_of_reads (h1 := fun _ => rfl) (hA20 _ (Kd.reads_of_C HR1.out))); have HC104 := Aside0.mk hC20; clear hA20 hC20 hi020 hsz20; refine start_ (n := 15) (S := fun w' => True) (ds := []) (zM 15 0) (by kernel_rfl) rfl rfl trivial (fun hHeld => ?_); refine with_tabW impl_determinant.tab9 impl_determinant.bits9 (fun HT_ HW_ => ?_); generalize wr.drew = w19 at HB HR104 hHeld ⊢; refine zQ 0 33 (zM 15 1) ?_
   refine zQ 1 34 (zM 15 3) ?_
   refine zQ 2 35 (zM 15 7) ?_
   refine zQ 3 36 (zM 15 15) ?_
   refine zQ 4 37 (zM 15 31) ?_
   refine zQ 5 38 (zM 15 63) ?_
   refine zQ 6 39 (zM 15 127) ?_
   refine zQ 7 40 (zM 15 255) ?_
   refine zQ 8 41 (zM 15 511) ?_
   refine zQ 9 42 (zM 15 1023) ?_
   refine zQ 10 43 (zM 15 2047) ?_
   refine one_ (i := 11) (N := some 44) (zM 15 4095) rfl rfl (one_of HT_.out (by kernel_rfl)) (by decide) (fun K hK => ?_); refine goes_ Try.func80 (by kernel_rfl) rfl #[.slice (some ad102) l0.length c0, .slice A20 (l1.drop 1).length (c1 - 1), .int .i64 (Go.bits .andNot .i64 a2 (ji17))] (by rfl) rfl rfl (by (try simp only [List.map_toArray, List.map_cons, List.map_nil]); first | done | (rw [show (l1.drop 1).length = (l1.length - 1) from List.length_drop] <;> rfl) | (simp only [hji17]; rfl) | rfl | (simp only [List.length_drop, List.length_take]; rfl)) ?_; (with_reducible refine (ih k1 (by have := HK1.out; omega) _ _ l0 _ _ (l1.drop 1) (Go.bits .andNot .i64 a2 (ji17)) t105 _ ?side1 ?side2 ?side3 ?side4 A18.out).mono ?_); (case side1 => exact zz27); (case side2 => exact HC0.out); (case side3 => repeat (first | exact (Kd.C_below HR104.out HB.out) | (with_reducible refine Kd.C_alloc ?_ _) | (with_reducible refine Kd.C_drewN ?_ _) | (with_reducible refine Kd.C_drew ?_))); (case side4 => exact HC104.out); rintro e w21 ⟨rfl, hb⟩; refine ⟨_, rfl, ?_⟩; replace HB := Aside0.mk (below_step zz1 hb); clear hb; refine hK.out _ _ trivial (fun hHeld => ?_); clear hK K; refine norm_ (a' := ?_) ?_ ?_; rotate_left
   ·show Act.put _ (some 44) _ = _; exact zzS
   refine zQ 12 45 (zM 15 8191) ?_
   refine zQ 13 46 (zM 15 16383) ?_
   refine zQ 14 7 (zM 15 32767) ?_
   refine done_ (done_of HT_.out (by kernel_rfl)) ?_; (try go_wp2); go_roundg k1; (case measure => have := HK1.out; omega); case rel => exact ⟨(wrap64 (x7_1 + (wrap64 ((wrap64 (x8_1 * (rd (rd_L3 l0 (rd l1 0)) x21_1))) * t105)))), (wrap64 (-x8_1)), (wrap64 (x21_1 + 1)), zz5, zz5, zz5, H', ⟨zz36⟩, ⟨zz1⟩⟩
end Go.Proofs.Ytkcbinohpdhbgaa.P
end

