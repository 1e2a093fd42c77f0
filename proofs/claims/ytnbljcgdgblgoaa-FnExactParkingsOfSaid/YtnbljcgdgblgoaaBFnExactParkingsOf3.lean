/- A part of the proof of FnExactParkingsOf. -/
import Derived.Test.YtnbljcgdgblgoaaBFnExactParkingsOf2
import Derived.Test.YtnbljcgdgblgoaaBFnExactParkingsOf0
import Derived.Test.YtnbljcgdgblgoaaBFnExactParkingsOf1
import Derived.Deep.LoopGhost
section
namespace Go.Proofs.Ytnbljcgdgblgoaa.P
open Go.RowKit Go.Proofs.YtnbljcgdgblgoaaW.PrintWords Go.Proofs.YtnbljcgdgblgoaaW.PrintLast Go.Proofs.YtnbljcgdgblgoaaW.PrintMore
attribute [local go_sem] max2_int min2_int max_two min_two max_three min_three max_four min_four
set_option linter.unusedVariables false
set_option linter.unusedSimpArgs false
def laws_toGraph.f (k : Nat) (a0_0 : Int) (l0_1 : List (S101)) : Option (Int × (List (S57))) := (laws_toEdgeS.f k l0_1).bind fun t104 => (some (a0_0, t104))
theorem laws_toGraph.mono : ∀ a0 a1 k, LeO (laws_toGraph.f k a0 a1) (laws_toGraph.f (k + 1) a0 a1) := by
 intro a0 a1 k; unfold laws_toGraph.f; repeat' first | (with_reducible apply laws_toEdgeS.mono) | (with_reducible exact LeO.refl _) | (with_reducible exact LeO.none _) | (with_reducible refine LeO.ite ?_ ?_) | (with_reducible refine LeO.bind ?_ (fun _ => ?_)) | apply laws_toEdgeS.mono | exact LeO.none _ | refine LeO.ite ?_ ?_ | refine LeO.bind ?_ (fun _ => ?_)
set_option maxHeartbeats 8000000 in
set_option maxRecDepth 100000 in
theorem laws_toGraph.calls (k : Nat) (a0_0 : Int) (A0_1 : Option Addr) (c0_1 : Nat) (l0_1 : List (S101)) (r1 : Int) (r2 : List (S57)) (w : World) (hr0_1 : Kd.C k101 w A0_1 l0_1.length l0_1) (hc0_1 : l0_1.length ≤ c0_1) (h : laws_toGraph.f k a0_0 l0_1 = some (r1, r2)) :
  Calls Try.prog 18 #[.agg #[.int .i64 a0_0, .slice A0_1 l0_1.length c0_1]] w fun e w' => ∃ v1_ : Value, e = .returned (.agg #[.int .i64 r1, v1_]) ∧ Kd.R k57 57 w' w.heap.size (fun _ => True) v1_ r2 ∧ Below w.heap.size w w' := by
 have hu41 := Try.underlying41; have hu25 := Try.underlying25; have HR0_1 := Aside0.mk hr0_1; have HC0_1 := Aside0.mk hc0_1; clear hr0_1 hc0_1; have HB := Aside0.mk (Below.refl w.heap.size w); have H : ((laws_toEdgeS.f k l0_1).bind fun t104 => (some (a0_0, t104))) = some (r1, r2) := h; clear h; replace H := Option.bind_eq_some_iff.mp H; obtain ⟨t104, A20, H⟩ := H; (try dsimp only at H); have A2 := Aside0.mk A20; clear A20; simp only [Option.some.injEq, Prod.mk.injEq] at H; obtain ⟨rfl, rfl⟩ := H; go_enter Try.func18, Try.ntmps18; (go_wp2_with (first | ((with_reducible refine gate_dst (N := 1) rfl ?_); refine box_event ?hg (N := 1) ?hd (cs := #[.int .i64 a0_0, .slice A0_1 l0_1.length c0_1]) (t := 41) ?hr ?_; (case hd => rfl); (case hg => rfl); (case hr => exact zz9); intro gb101 hg w3 hbox hb; have n_ := zA4 (below_step zz1 hb) hbox (zz10 : w.heap.size ≤ gb101) (zz10 : w.heap.size ≤ gb101); clear HB; obtain ⟨HB, BK101, GW101, GE101⟩ := n_; clear hb hbox hg) | ((with_reducible refine gate_dst (N := 2) rfl ?_); refine box_event ?hg (N := 2) ?hd (cs := #[.int .i64 0, .slice none 0 0]) (t := 25) ?hr ?_; (case hd => rfl); (case hg => rfl); (case hr => exact zz9); intro gb102 hg w4 hbox hb; have n_ := zA7 (blk_below (g := gb101) (o := .cells #[.int .i64 a0_0, .slice A0_1 l0_1.length c0_1] 41 (0, 0)) zz2 hb) (below_step zz0 hb) hbox (zz13 : w.heap.size ≤ gb102) (zz13 : w.heap.size ≤ gb102) (by rw [hg]; exact Nat.ne_of_lt (blk_lt (g := gb101) (o := .cells #[.int .i64 a0_0, .slice A0_1 l0_1.length c0_1] 41 (0, 0)) zz2) : gb101 ≠ gb102) (by rw [hg]; exact Nat.ne_of_gt (blk_lt (g := gb101) (o := .cells #[.int .i64 a0_0, .slice A0_1 l0_1.length c0_1] 41 (0, 0)) zz2) : gb102 ≠ gb101); clear BK101 HB; obtain ⟨BK101, HB, BK102, GW102, GE102, NB101_102, NB102_101⟩ := n_; clear hb hbox hg) | ((with_reducible refine gate_dst (N := 3) rfl ?_); refine box_event ?hg (N := 3) ?hd (cs := #[.int .i64 0, .slice none 0 0]) (t := 25) ?hr ?_; (case hd => rfl); (case hg => rfl); (case hr => exact zz9); intro gb103 hg w5 hbox hb; have n_ := zA10 (blk_below (g := gb101) (o := .cells #[.int .i64 a0_0, .slice A0_1 l0_1.length c0_1] 41 (0, 0)) zz2 hb) (blk_below (g := gb102) (o := .cells #[.int .i64 0, .slice none 0 0] 25 (0, 0)) zz23 hb) (below_step zz14 hb) hbox (by rw [hg]; exact (below_size zz14) : w.heap.size ≤ gb103) (by rw [hg]; exact (below_size zz14) : w.heap.size ≤ gb103) (by rw [hg]; exact Nat.ne_of_lt (blk_lt (g := gb101) (o := .cells #[.int .i64 a0_0, .slice A0_1 l0_1.length c0_1] 41 (0, 0)) zz2) : gb101 ≠ gb103) (by rw [hg]; exact Nat.ne_of_gt (blk_lt (g := gb101) (o := .cells #[.int .i64 a0_0, .slice A0_1 l0_1.length c0_1] 41 (0, 0)) zz2) : gb103 ≠ gb101) (by rw [hg]; exact Nat.ne_of_lt (blk_lt (g := gb102) (o := .cells #[.int .i64 0, .slice none 0 0] 25 (0, 0)) zz23) : gb102 ≠ gb103) (by rw [hg]; exact Nat.ne_of_gt (blk_lt (g := gb102) (o := .cells #[.int .i64 0, .slice none 0 0] 25 (0, 0)) zz23) : gb103 ≠ gb102); clear BK101 BK102 HB; obtain ⟨BK101, BK102, HB, BK103, GW103, GE103, NB101_103, NB103_101, NB102_103, NB103_102⟩ := n_; clear hb hbox hg; have hnb6 := NB101_102.out; have hnc6 := NB102_101.out; have hnb7 := NB101_103.out; have hnc7 := NB103_101.out; have hcz8_0 := zC20 BK101; have hcz8_1 := zC21 BK101; have hfz8_0 := blk_frozen BK101.out 0; have hfz8_1 := blk_frozen BK101.out 1; have hnb9 := NB103_102.out; have hnc9 := NB102_103.out; have hcz10_0 := zC20 BK103; have hcz10_1 := zC21 BK103; have hfz10_0 := blk_frozen BK103.out 0; have hfz10_1 := blk_frozen BK103.out 1) | ((with_reducible refine gate_callee (f := 60) rfl ?_); refine goesL_ (some 9) rfl rfl Try.func60 (by kernel_rfl) rfl #[.slice A0_1 l0_1.length c0_1] rfl zz4 ?_; (with_reducible refine (laws_toEdgeS.calls k _ _ l0_1 t104 _ ?side1 ?side2 A2.out).mono ?_); (case side1 => exact Kd.C_below HR0_1.out zz47); (case side2 => exact HC0_1.out); rintro e w11 ⟨v105, rfl, ho0, hb⟩; refine ⟨_, rfl, ?_⟩; have n_ := zA5 (Kd.R_lower ho0 (below_size zz47)) (blk_below (g := gb101) (o := .cells #[.int .i64 a0_0, .slice A0_1 l0_1.length c0_1] 41 (0, 0)) (by (with_reducible repeat (first | refine blk_drewN ?_ _ | refine blk_drew ?_ | refine blk_alloc ?_ _)); refine blk_far ?_ NB101_103.out _; (with_reducible repeat (first | refine blk_drewN ?_ _ | refine blk_drew ?_ | refine blk_alloc ?_ _)); exact BK101.out) hb) (blk_below (g := gb102) (o := .cells #[.int .i64 0, .slice none 0 0] 25 (0, 0)) (by (with_reducible repeat (first | refine blk_drewN ?_ _ | refine blk_drew ?_ | refine blk_alloc ?_ _)); refine blk_far ?_ NB102_103.out _; (with_reducible repeat (first | refine blk_drewN ?_ _ | refine blk_drew ?_ | refine blk_alloc ?_ _)); exact BK102.out) hb) (blk_below (g := gb103) (o := .cells #[.int .i64 a0_0, .slice none 0 0] 25 (0, 0)) (by (with_reducible repeat (first | refine blk_drewN ?_ _ | refine blk_drew ?_ | refine blk_alloc ?_ _)); refine blk_put (cs := #[.int .i64 0, .slice none 0 0]) ?_ 0 _ rfl; (with_reducible repeat (first | refine blk_drewN ?_ _ | refine blk_drew ?_ | refine blk_alloc ?_ _)); exact BK103.out) hb) (below_step zz47 hb); clear BK101 BK102 BK103 HB; obtain ⟨HO106, BK101, BK102, BK103, HB⟩ := n_; clear ho0 hb; obtain ⟨Ao12, co12, eo12⟩ := Kd.R_slice HO106.out; subst eo12; have hcz13_0 := zC20 BK103; have hcz13_1 := zC21 BK103; have hfz13_0 := blk_frozen BK103.out 0; have hfz13_1 := blk_frozen BK103.out 1; have hcz14_0 := zC20 BK102; have hcz14_1 := zC21 BK102; have hfz14_0 := blk_frozen BK102.out 0; have hfz14_1 := blk_frozen BK102.out 1))); refine bodyPost_ret (results_cell_row rfl _ _ gb102 25 #[.int .i64 a0_0, .slice Ao12 t104.length co12] (0, 0) _ rfl (by (with_reducible repeat (first | refine blk_drewN ?_ _ | refine blk_drew ?_ | refine blk_alloc ?_ _)); refine blk_put (cs := #[.int .i64 a0_0, .slice none 0 0]) ?_ 1 _ rfl; (with_reducible repeat (first | refine blk_drewN ?_ _ | refine blk_drew ?_ | refine blk_alloc ?_ _)); refine blk_put (cs := #[.int .i64 0, .slice none 0 0]) ?_ 0 _ rfl; (with_reducible repeat (first | refine blk_drewN ?_ _ | refine blk_drew ?_ | refine blk_alloc ?_ _)); refine blk_far ?_ NB102_103.out _; (with_reducible repeat (first | refine blk_drewN ?_ _ | refine blk_drew ?_ | refine blk_alloc ?_ _)); exact BK102.out) Try.underlying25 rfl (by kernel_rfl)) rfl ?_; exact ⟨_, zz7, by (with_reducible repeat (first | apply Kd.R_alloc | apply Kd.R_drewN | apply Kd.R_drew)); exact Kd.R_mono (Kd.R_far (p := ⟨gb102, 1, none⟩) (Kd.R_far (p := ⟨gb102, 0, none⟩) (Kd.R_far (p := ⟨gb103, 1, none⟩) (Kd.R_types (Kd.R_types HO106.out BK103.out (by decide)) BK102.out (by decide)) (fun _ hk => hk.1.2) (.slice Ao12 t104.length co12)) (fun _ hk => hk.2) (.int .i64 a0_0)) (fun _ hk => hk.2) (.slice Ao12 t104.length co12)) (fun _ hk => trivial), by repeat (first | (with_reducible first | exact HB.out | apply below_alloc | apply pw_below_drewN | apply below_drew1 | refine below_set ?_ GE101.out | refine below_set ?_ GE102.out | refine below_set ?_ GE103.out) | exact HB.out)⟩
def laws_eqIntSS.l0 : Nat → List (List Int) → List (List Int) → Int → Option (Bool)
 | 0, _, _, _ => none
 | k + 1, x0, x1, x5 => if x5 < (x0.length : Int) then (if 0 ≤ x5 then (if x5 < (x1.length : Int) then ((laws_eqIntS.f k (rd_L3 x0 x5) (rd_L3 x1 x5)).bind fun t103 => (if t103 = true then (laws_eqIntSS.l0 k x0 x1 (wrap64 (x5 + 1))) else (some false))) else (none)) else (none)) else (some true)
def laws_eqIntSS.f (k : Nat) (l0 : List (List Int)) (l1 : List (List Int)) : Option (Bool) := if (l0.length : Int) = (l1.length : Int) then (laws_eqIntSS.l0 k l0 l1 0) else (some false)
theorem laws_eqIntSS.mono_l : ∀ k, (∀ y0 y1 y2, LeO (laws_eqIntSS.l0 k y0 y1 y2) (laws_eqIntSS.l0 (k + 1) y0 y1 y2))
 | 0 => fun _ _ _ r h => by simp [laws_eqIntSS.l0] at h
 | k + 1 => by
  have ih0 := laws_eqIntSS.mono_l k
  ·intro y0 y1 y2
   unfold laws_eqIntSS.l0
   exact zm15
theorem laws_eqIntSS.mono : ∀ a0 a1 k, LeO (laws_eqIntSS.f k a0 a1) (laws_eqIntSS.f (k + 1) a0 a1) := by
 intro a0 a1 k; have ih0 := laws_eqIntSS.mono_l k; unfold laws_eqIntSS.f; exact zm15
set_option maxHeartbeats 8000000 in
set_option maxRecDepth 100000 in
theorem laws_eqIntSS.calls (k : Nat) (A0 : Option Addr) (c0 : Nat) (l0 : List (List Int)) (A1 : Option Addr) (c1 : Nat) (l1 : List (List Int)) (r : Bool) (w : World) (hr0 : Kd.C (Kd.slice 3 (Kd.int .i64)) w A0 l0.length l0) (hc0 : l0.length ≤ c0) (hr1 : Kd.C (Kd.slice 3 (Kd.int .i64)) w A1 l1.length l1) (hc1 : l1.length ≤ c1) (h : laws_eqIntSS.f k l0 l1 = some r) :
  Calls Try.prog 19 #[.slice A0 l0.length c0, .slice A1 l1.length c1] w fun e w' => e = .returned (.bool r) ∧ Drawn0 w w' := by
 have HR0 := Aside0.mk hr0; have HC0 := Aside0.mk hc0; clear hr0 hc0; have HR1 := Aside0.mk hr1; have HC1 := Aside0.mk hc1; clear hr1 hc1; have H : (if (l0.length : Int) = (l1.length : Int) then (laws_eqIntSS.l0 k l0 l1 0) else (some false)) = some r := h; clear h; by_cases c3 : (l0.length : Int) = (l1.length : Int); rotate_left
 ·rw [if_neg c3] at H; have c3b0 : ((l0.length : Int) == (l1.length : Int)) = false := beq_eq_false_iff_ne.mpr c3; have c3b1 : ((l0.length : Int) != (l1.length : Int)) = true := bne_iff_ne.mpr c3; (have c3b2 : (l0.length == l1.length) = false := by first | simpa using c3 | (simp at c3 ⊢; omega)); obtain rfl := Option.some.inj H; go_enter Try.func19, Try.ntmps19; go_wp2; (repeat (go_quiet (fail); try go_wp2)); go_ret; exact ⟨zz5, by repeat (first | exact Drawn0.refl _ | apply Drawn0.step)⟩
 rw [if_pos c3] at H; have c3b0 : ((l0.length : Int) == (l1.length : Int)) = true := beq_iff_eq.mpr c3; have c3b1 : ((l0.length : Int) != (l1.length : Int)) = false := bne_eq_false_iff_eq.mpr c3; (have c3b2 : (l0.length == l1.length) = true := by first | simpa using c3 | (simp at c3 ⊢; omega)); clear c3; have H' := Aside0.mk H; clear H; go_enter Try.func19, Try.ntmps19; go_wp2; (repeat (go_quiet (fail); try go_wp2)); (go_loopg [5] k (fun kq v5 w' => ∃ (x5_1 : Int), v5 = .int .i64 x5_1 ∧ Aside0 (laws_eqIntSS.l0 kq l0 l1 x5_1 = some r) ∧ Aside0 (kq ≤ k) ∧ Drawn0 w w')); case atStart => exact ⟨(0), zz5, H', ⟨Nat.le_refl _⟩, by repeat (first | exact Drawn0.refl _ | apply Drawn0.step)⟩
 case round =>
  clear H'; (try clear c1); (try clear p2); (try clear c3); (try clear c3b0); (try clear c3b1); (try clear c3b2); obtain ⟨x5_1, rfl, HA, HK1, ⟨m1, rfl⟩⟩ := hrel
  cases gk with
  | zero => exact absurd HA.out (by simp [laws_eqIntSS.l0])
  | succ k1 =>
   have H := HA.out; clear HA; simp only [laws_eqIntSS.l0] at H; by_cases c4 : x5_1 < (l0.length : Int); rotate_left
   ·rw [if_neg c4] at H; have c4b0 := decide_eq_false c4; (try (have c4b8101_0 := c4b0; first | rw [hl101_0] at c4b8101_0 | rw [← hl101_0] at c4b8101_0)); (try (have c4b8102_0 := c4b0; first | rw [hl102_0] at c4b8102_0 | rw [← hl102_0] at c4b8102_0)); clear c4; obtain rfl := Option.some.inj H; go_wp2; (repeat (go_quiet (fail); try go_wp2)); go_ret; exact ⟨zz5, by repeat (first | exact Drawn0.refl _ | apply Drawn0.step)⟩
   rw [if_pos c4] at H; have c4b0 := decide_eq_true c4; clear c4; by_cases c5 : 0 ≤ x5_1; rotate_left
   ·rw [if_neg c5] at H; exact absurd H (by simp)
   rw [if_pos c5] at H; have c5b0 := decide_eq_true c5; clear c5; by_cases c6 : x5_1 < (l1.length : Int); rotate_left
   ·rw [if_neg c6] at H; exact absurd H (by simp)
   rw [if_pos c6] at H; have c6b0 := decide_eq_true c6; clear c6; replace H := Option.bind_eq_some_iff.mp H; obtain ⟨t103, A70, H⟩ := H; (try dsimp only at H); have A7 := Aside0.mk A70; clear A70; by_cases c8 : t103 = true; rotate_left
   ·replace c8 := Bool.eq_false_iff.mpr c8; subst c8; rw [if_neg (show ¬ (false = true) by decide)] at H; obtain rfl := Option.some.inj H; have p101 : 0 ≤ (x5_1 : Int) := of_decide_eq_true zz3; have q101 : x5_1 < (l0.length : Int) := of_decide_eq_true zz3; obtain ⟨ad101, A101_0, c101_0, e101, hx101_0, hl101_0, hi101_0⟩ := at_L3 HR0.out x5_1 p101 q101; cases e101; have HR101_0 := Aside0.mk hi101_0; have HC101_0 := Aside0.mk hl101_0; clear hi101_0 hl101_0; replace p101 := eq_true p101; replace q101 := eq_true q101; have p102 : 0 ≤ (x5_1 : Int) := of_decide_eq_true zz3; have q102 : x5_1 < (l1.length : Int) := of_decide_eq_true zz3; obtain ⟨ad102, A102_0, c102_0, e102, hx102_0, hl102_0, hi102_0⟩ := at_L3 HR1.out x5_1 p102 q102; cases e102; have HR102_0 := Aside0.mk hi102_0; have HC102_0 := Aside0.mk hl102_0; clear hi102_0 hl102_0; replace p102 := eq_true p102; replace q102 := eq_true q102; (go_wp2_with (first | (go_at_call 30; (with_reducible refine (laws_eqIntS.calls k1 _ _ (rd_L3 l0 x5_1) _ _ (rd_L3 l1 x5_1) false _ ?side1 ?side2 ?side3 ?side4 A7.out).mono ?_); (case side1 => exact zz21); (case side2 => exact HC101_0.out); (case side3 => exact zz34); (case side4 => exact HC102_0.out); rintro e w' ⟨rfl, ⟨nd, rfl⟩⟩; (try first | exact ⟨rfl, _, World.drewN_drewN _ _ _⟩ | exact ⟨rfl, _, Eq.trans (World.drewN_drewN _ _ _) (congrArg (World.drewN _) (Nat.add_assoc _ _ _))⟩)))); (repeat (go_quiet (first | (go_at_call 30; (with_reducible refine (laws_eqIntS.calls k1 _ _ (rd_L3 l0 x5_1) _ _ (rd_L3 l1 x5_1) false _ ?side1 ?side2 ?side3 ?side4 A7.out).mono ?_); (case side1 => exact zz21); (case side2 => exact HC101_0.out); (case side3 => exact zz34); (case side4 => exact HC102_0.out); rintro e w' ⟨rfl, ⟨nd, rfl⟩⟩; (try first | exact ⟨rfl, _, World.drewN_drewN _ _ _⟩ | exact ⟨rfl, _, Eq.trans (World.drewN_drewN _ _ _) (congrArg (World.drewN _) (Nat.add_assoc _ _ _))⟩))); try go_wp2_with (first | (go_at_call 30; (with_reducible refine (laws_eqIntS.calls k1 _ _ (rd_L3 l0 x5_1) _ _ (rd_L3 l1 x5_1) false _ ?side1 ?side2 ?side3 ?side4 A7.out).mono ?_); (case side1 => exact zz21); (case side2 => exact HC101_0.out); (case side3 => exact zz34); (case side4 => exact HC102_0.out); rintro e w' ⟨rfl, ⟨nd, rfl⟩⟩; (try first | exact ⟨rfl, _, World.drewN_drewN _ _ _⟩ | exact ⟨rfl, _, Eq.trans (World.drewN_drewN _ _ _) (congrArg (World.drewN _) (Nat.add_assoc _ _ _))⟩))))); go_ret; exact ⟨zz5, by repeat (first | exact Drawn0.refl _ | apply Drawn0.step)⟩
   subst c8; rw [if_pos rfl] at H; have H' := Aside0.mk H; clear H; have p101 : 0 ≤ (x5_1 : Int) := of_decide_eq_true zz3; have q101 : x5_1 < (l0.length : Int) := of_decide_eq_true zz3; obtain ⟨ad101, A101_0, c101_0, e101, hx101_0, hl101_0, hi101_0⟩ := at_L3 HR0.out x5_1 p101 q101; cases e101; have HR101_0 := Aside0.mk hi101_0; have HC101_0 := Aside0.mk hl101_0; clear hi101_0 hl101_0; replace p101 := eq_true p101; replace q101 := eq_true q101; have p102 : 0 ≤ (x5_1 : Int) := of_decide_eq_true zz3; have q102 : x5_1 < (l1.length : Int) := of_decide_eq_true zz3; obtain ⟨ad102, A102_0, c102_0, e102, hx102_0, hl102_0, hi102_0⟩ := at_L3 HR1.out x5_1 p102 q102; cases e102; have HR102_0 := Aside0.mk hi102_0; have HC102_0 := Aside0.mk hl102_0; clear hi102_0 hl102_0; replace p102 := eq_true p102; replace q102 := eq_true q102; (go_wp2_with (first | (go_at_call 30; (with_reducible refine (laws_eqIntS.calls k1 _ _ (rd_L3 l0 x5_1) _ _ (rd_L3 l1 x5_1) true _ ?side1 ?side2 ?side3 ?side4 A7.out).mono ?_); (case side1 => exact zz21); (case side2 => exact HC101_0.out); (case side3 => exact zz34); (case side4 => exact HC102_0.out); rintro e w' ⟨rfl, ⟨nd, rfl⟩⟩; (try first | exact ⟨rfl, _, World.drewN_drewN _ _ _⟩ | exact ⟨rfl, _, Eq.trans (World.drewN_drewN _ _ _) (congrArg (World.drewN _) (Nat.add_assoc _ _ _))⟩)))); (repeat (go_quiet (first | (go_at_call 30; (with_reducible refine (laws_eqIntS.calls k1 _ _ (rd_L3 l0 x5_1) _ _ (rd_L3 l1 x5_1) true _ ?side1 ?side2 ?side3 ?side4 A7.out).mono ?_); (case side1 => exact zz21); (case side2 => exact HC101_0.out); (case side3 => exact zz34); (case side4 => exact HC102_0.out); rintro e w' ⟨rfl, ⟨nd, rfl⟩⟩; (try first | exact ⟨rfl, _, World.drewN_drewN _ _ _⟩ | exact ⟨rfl, _, Eq.trans (World.drewN_drewN _ _ _) (congrArg (World.drewN _) (Nat.add_assoc _ _ _))⟩))); try go_wp2_with (first | (go_at_call 30; (with_reducible refine (laws_eqIntS.calls k1 _ _ (rd_L3 l0 x5_1) _ _ (rd_L3 l1 x5_1) true _ ?side1 ?side2 ?side3 ?side4 A7.out).mono ?_); (case side1 => exact zz21); (case side2 => exact HC101_0.out); (case side3 => exact zz34); (case side4 => exact HC102_0.out); rintro e w' ⟨rfl, ⟨nd, rfl⟩⟩; (try first | exact ⟨rfl, _, World.drewN_drewN _ _ _⟩ | exact ⟨rfl, _, Eq.trans (World.drewN_drewN _ _ _) (congrArg (World.drewN _) (Nat.add_assoc _ _ _))⟩))))); go_roundg k1; (case measure => have := HK1.out; omega); case rel => exact ⟨(wrap64 (x5_1 + 1)), zz5, H', ⟨zz36⟩, by repeat (first | exact Drawn0.refl _ | apply Drawn0.step)⟩
def laws_eqEdge.f (a0_0 : Int) (a0_1 : Int) (a1_0 : Int) (a1_1 : Int) : Option (Bool) := if a0_0 = a1_0 then (if a0_1 = a1_1 then (some true) else (some false)) else (some false)
set_option maxHeartbeats 8000000 in
set_option maxRecDepth 100000 in
theorem laws_eqEdge.calls (a0_0 : Int) (a0_1 : Int) (a1_0 : Int) (a1_1 : Int) (r : Bool) (w : World) (h : laws_eqEdge.f a0_0 a0_1 a1_0 a1_1 = some r) :
  Calls Try.prog 98 #[.agg #[.int .i64 a0_0, .int .i64 a0_1], .agg #[.int .i64 a1_0, .int .i64 a1_1]] w fun e w' => e = .returned (.bool r) ∧ Below w.heap.size w w' := by
 have hu57 := Try.underlying57; have HB := Aside0.mk (Below.refl w.heap.size w); have H : (if a0_0 = a1_0 then (if a0_1 = a1_1 then (some true) else (some false)) else (some false)) = some r := h; clear h; by_cases c3 : a0_0 = a1_0; rotate_left
 ·rw [if_neg c3] at H; have c3b0 : (a0_0 == a1_0) = false := beq_eq_false_iff_ne.mpr c3; have c3b1 : (a0_0 != a1_0) = true := bne_iff_ne.mpr c3; obtain rfl := Option.some.inj H; go_enter Try.func98, Try.ntmps98; (go_wp2_with (first | ((with_reducible refine gate_dst (N := 2) rfl ?_); refine box_event ?hg (N := 2) ?hd (cs := #[.int .i64 a0_0, .int .i64 a0_1]) (t := 57) ?hr ?_; (case hd => rfl); (case hg => rfl); (case hr => exact zz9); intro gb101 hg w15 hbox hb; have n_ := zA4 (below_step zz1 hb) hbox (zz10 : w.heap.size ≤ gb101) (zz10 : w.heap.size ≤ gb101); clear HB; obtain ⟨HB, BK101, GW101, GE101⟩ := n_; clear hb hbox hg) | ((with_reducible refine gate_dst (N := 3) rfl ?_); refine box_event ?hg (N := 3) ?hd (cs := #[.int .i64 a1_0, .int .i64 a1_1]) (t := 57) ?hr ?_; (case hd => rfl); (case hg => rfl); (case hr => exact zz9); intro gb102 hg w16 hbox hb; have n_ := zA7 (blk_below (g := gb101) (o := .cells #[.int .i64 a0_0, .int .i64 a0_1] 57 (0, 0)) zz2 hb) (below_step zz0 hb) hbox (zz13 : w.heap.size ≤ gb102) (zz13 : w.heap.size ≤ gb102) (zz48 : gb101 ≠ gb102) (zz49 : gb102 ≠ gb101); clear BK101 HB; obtain ⟨BK101, HB, BK102, GW102, GE102, NB101_102, NB102_101⟩ := n_; clear hb hbox hg; have hnb17 := NB101_102.out; have hnc17 := NB102_101.out; have hcz18_0 := zC20 BK101; have hcz18_1 := zC21 BK101; have hfz18_0 := blk_frozen BK101.out 0; have hfz18_1 := blk_frozen BK101.out 1; have hcz19_0 := zC20 BK102; have hcz19_1 := zC21 BK102; have hfz19_0 := blk_frozen BK102.out 0; have hfz19_1 := blk_frozen BK102.out 1))); go_ret; exact ⟨zz7, zz14⟩
 rw [if_pos c3] at H; have c3b0 : (a0_0 == a1_0) = true := beq_iff_eq.mpr c3; have c3b1 : (a0_0 != a1_0) = false := bne_eq_false_iff_eq.mpr c3; clear c3; by_cases c4 : a0_1 = a1_1; rotate_left
 ·rw [if_neg c4] at H; have c4b0 : (a0_1 == a1_1) = false := beq_eq_false_iff_ne.mpr c4; have c4b1 : (a0_1 != a1_1) = true := bne_iff_ne.mpr c4; obtain rfl := Option.some.inj H; go_enter Try.func98, Try.ntmps98; (go_wp2_with (first | ((with_reducible refine gate_dst (N := 2) rfl ?_); refine box_event ?hg (N := 2) ?hd (cs := #[.int .i64 a0_0, .int .i64 a0_1]) (t := 57) ?hr ?_; (case hd => rfl); (case hg => rfl); (case hr => exact zz9); intro gb101 hg w10 hbox hb; have n_ := zA4 (below_step zz1 hb) hbox (zz10 : w.heap.size ≤ gb101) (zz10 : w.heap.size ≤ gb101); clear HB; obtain ⟨HB, BK101, GW101, GE101⟩ := n_; clear hb hbox hg) | ((with_reducible refine gate_dst (N := 3) rfl ?_); refine box_event ?hg (N := 3) ?hd (cs := #[.int .i64 a1_0, .int .i64 a1_1]) (t := 57) ?hr ?_; (case hd => rfl); (case hg => rfl); (case hr => exact zz9); intro gb102 hg w11 hbox hb; have n_ := zA7 (blk_below (g := gb101) (o := .cells #[.int .i64 a0_0, .int .i64 a0_1] 57 (0, 0)) zz2 hb) (below_step zz0 hb) hbox (zz13 : w.heap.size ≤ gb102) (zz13 : w.heap.size ≤ gb102) (zz48 : gb101 ≠ gb102) (zz49 : gb102 ≠ gb101); clear BK101 HB; obtain ⟨BK101, HB, BK102, GW102, GE102, NB101_102, NB102_101⟩ := n_; clear hb hbox hg; have hnb12 := NB101_102.out; have hnc12 := NB102_101.out; have hcz13_0 := zC20 BK101; have hcz13_1 := zC21 BK101; have hfz13_0 := blk_frozen BK101.out 0; have hfz13_1 := blk_frozen BK101.out 1; have hcz14_0 := zC20 BK102; have hcz14_1 := zC21 BK102; have hfz14_0 := blk_frozen BK102.out 0; have hfz14_1 := blk_frozen BK102.out 1))); go_ret; exact ⟨zz7, zz14⟩
 rw [if_pos c4] at H; have c4b0 : (a0_1 == a1_1) = true := beq_iff_eq.mpr c4; have c4b1 : (a0_1 != a1_1) = false := bne_eq_false_iff_eq.mpr c4; clear c4; obtain rfl := Option.some.inj H; go_enter Try.func98, Try.ntmps98; (go_wp2_with (first | ((with_reducible refine gate_dst (N := 2) rfl ?_); refine box_event ?hg (N := 2) ?hd (cs := #[.int .i64 a0_0, .int .i64 a0_1]) (t := 57) ?hr ?_; (case hd => rfl); (case hg => rfl); (case hr => exact zz9); intro gb101 hg w5 hbox hb; have n_ := zA4 (below_step zz1 hb) hbox (zz10 : w.heap.size ≤ gb101) (zz10 : w.heap.size ≤ gb101); clear HB; obtain ⟨HB, BK101, GW101, GE101⟩ := n_; clear hb hbox hg) | ((with_reducible refine gate_dst (N := 3) rfl ?_); refine box_event ?hg (N := 3) ?hd (cs := #[.int .i64 a1_0, .int .i64 a1_1]) (t := 57) ?hr ?_; (case hd => rfl); (case hg => rfl); (case hr => exact zz9); intro gb102 hg w6 hbox hb; have n_ := zA7 (blk_below (g := gb101) (o := .cells #[.int .i64 a0_0, .int .i64 a0_1] 57 (0, 0)) zz2 hb) (below_step zz0 hb) hbox (zz13 : w.heap.size ≤ gb102) (zz13 : w.heap.size ≤ gb102) (zz48 : gb101 ≠ gb102) (zz49 : gb102 ≠ gb101); clear BK101 HB; obtain ⟨BK101, HB, BK102, GW102, GE102, NB101_102, NB102_101⟩ := n_; clear hb hbox hg; have hnb7 := NB101_102.out; have hnc7 := NB102_101.out; have hcz8_0 := zC20 BK101; have hcz8_1 := zC21 BK101; have hfz8_0 := blk_frozen BK101.out 0; have hfz8_1 := blk_frozen BK101.out 1; have hcz9_0 := zC20 BK102; have hcz9_1 := zC21 BK102; have hfz9_0 := blk_frozen BK102.out 0; have hfz9_1 := blk_frozen BK102.out 1))); go_ret; exact ⟨zz7, zz14⟩
def laws_eqEdgeS.l0 : Nat → List (S57) → List (S57) → Int → Option (Bool)
 | 0, _, _, _ => none
 | k + 1, x0, x1, x5 => if x5 < (x0.length : Int) then (if 0 ≤ x5 then (if x5 < (x1.length : Int) then ((laws_eqEdge.f ((rd_T57 x0 x5).f0) ((rd_T57 x0 x5).f1) ((rd_T57 x1 x5).f0) ((rd_T57 x1 x5).f1)).bind fun t103 => (if t103 = true then (laws_eqEdgeS.l0 k x0 x1 (wrap64 (x5 + 1))) else (some false))) else (none)) else (none)) else (some true)
def laws_eqEdgeS.f (k : Nat) (l0 : List (S57)) (l1 : List (S57)) : Option (Bool) := if (l0.length : Int) = (l1.length : Int) then (laws_eqEdgeS.l0 k l0 l1 0) else (some false)
theorem laws_eqEdgeS.mono_l : ∀ k, (∀ y0 y1 y2, LeO (laws_eqEdgeS.l0 k y0 y1 y2) (laws_eqEdgeS.l0 (k + 1) y0 y1 y2))
 | 0 => fun _ _ _ r h => by simp [laws_eqEdgeS.l0] at h
 | k + 1 => by
  have ih0 := laws_eqEdgeS.mono_l k
  ·intro y0 y1 y2
   unfold laws_eqEdgeS.l0
   exact zm0
theorem laws_eqEdgeS.mono : ∀ a0 a1 k, LeO (laws_eqEdgeS.f k a0 a1) (laws_eqEdgeS.f (k + 1) a0 a1) := by
 intro a0 a1 k; have ih0 := laws_eqEdgeS.mono_l k; unfold laws_eqEdgeS.f; exact zm0
def laws_eqEdgeS.T6 : Bool × List (List Nat × List Nat) := (true, [([], []), ([], []), ([0, 1], [0, 1]), ([2], [2]), ([], []), ([], []), ([4, 5], [4, 5]), ([6], [6]), ([3, 7], [3, 7]), ([8], [8])])
def laws_eqEdgeS.B6 : List Nat := [0, 0, 3, 7, 0, 0, 48, 112, 255, 511]
theorem laws_eqEdgeS.tab6 : rtab .any (opsOf Try.f61 6) = laws_eqEdgeS.T6 := by kernel_rfl
theorem laws_eqEdgeS.bits6 : waitsOk laws_eqEdgeS.T6.2 laws_eqEdgeS.B6 = true := by kernel_rfl
set_option maxHeartbeats 8000000 in
set_option maxRecDepth 100000 in
theorem laws_eqEdgeS.calls (k : Nat) (A0 : Option Addr) (c0 : Nat) (l0 : List (S57)) (A1 : Option Addr) (c1 : Nat) (l1 : List (S57)) (r : Bool) (w : World) (hr0 : Kd.C k57 w A0 l0.length l0) (hc0 : l0.length ≤ c0) (hr1 : Kd.C k57 w A1 l1.length l1) (hc1 : l1.length ≤ c1) (h : laws_eqEdgeS.f k l0 l1 = some r) :
  Calls Try.prog 61 #[.slice A0 l0.length c0, .slice A1 l1.length c1] w fun e w' => e = .returned (.bool r) ∧ Below w.heap.size w w' := by
 have hu57 := Try.underlying57; have HR0 := Aside0.mk hr0; have HC0 := Aside0.mk hc0; clear hr0 hc0; have HR1 := Aside0.mk hr1; have HC1 := Aside0.mk hc1; clear hr1 hc1; have HB := Aside0.mk (Below.refl w.heap.size w); have H : (if (l0.length : Int) = (l1.length : Int) then (laws_eqEdgeS.l0 k l0 l1 0) else (some false)) = some r := h; clear h; by_cases c3 : (l0.length : Int) = (l1.length : Int); rotate_left
 ·rw [if_neg c3] at H; have c3b0 : ((l0.length : Int) == (l1.length : Int)) = false := beq_eq_false_iff_ne.mpr c3; have c3b1 : ((l0.length : Int) != (l1.length : Int)) = true := bne_iff_ne.mpr c3; (have c3b2 : (l0.length == l1.length) = false := by first | simpa using c3 | (simp at c3 ⊢; omega)); obtain rfl := Option.some.inj H; go_enter Try.func61, Try.ntmps61; go_wp2; go_ret; exact ⟨zz7, zz1⟩
 rw [if_pos c3] at H; have c3b0 : ((l0.length : Int) == (l1.length : Int)) = true := beq_iff_eq.mpr c3; have c3b1 : ((l0.length : Int) != (l1.length : Int)) = false := bne_eq_false_iff_eq.mpr c3; (have c3b2 : (l0.length == l1.length) = true := by first | simpa using c3 | (simp at c3 ⊢; omega)); clear c3; have H' := Aside0.mk H; clear H; go_enter Try.func61, Try.ntmps61; go_wp2; (go_loopg [5] k (fun kq v5 w' => ∃ (x5_1 : Int), v5 = .int .i64 x5_1 ∧ Aside0 (laws_eqEdgeS.l0 kq l0 l1 x5_1 = some r) ∧ Aside0 (kq ≤ k) ∧ Aside0 (Below w.heap.size w w'))); case atStart => exact ⟨(0), zz5, H', ⟨Nat.le_refl _⟩, ⟨zz1⟩⟩
 case round =>
  clear H'; (try clear c1); (try clear p2); (try clear c3); (try clear c3b0); (try clear c3b1); (try clear c3b2); obtain ⟨x5_1, rfl, HA, HK1, HB⟩ := hrel
  cases gk with
  | zero => exact absurd HA.out (by simp [laws_eqEdgeS.l0])
  | succ k1 =>
   have H := HA.out; clear HA; simp only [laws_eqEdgeS.l0] at H; by_cases c4 : x5_1 < (l0.length : Int); rotate_left
   ·rw [if_neg c4] at H; have c4b0 := decide_eq_false c4; clear c4; obtain rfl := Option.some.inj H; go_wp2; go_ret; exact ⟨zz7, zz1⟩
   rw [if_pos c4] at H; have c4b0 := decide_eq_true c4; clear c4; by_cases c5 : 0 ≤ x5_1; rotate_left
   ·rw [if_neg c5] at H; exact absurd H (by simp)
   rw [if_pos c5] at H; have c5b0 := decide_eq_true c5; clear c5; by_cases c6 : x5_1 < (l1.length : Int); rotate_left
   ·rw [if_neg c6] at H; exact absurd H (by simp)
   rw [if_pos c6] at H; have c6b0 := decide_eq_true c6; clear c6; replace H := Option.bind_eq_some_iff.mp H; obtain ⟨t103, A70, H⟩ := H; (try dsimp only at H); have A7 := Aside0.mk A70; clear A70; by_cases c8 : t103 = true; rotate_left
   ·replace c8 := Bool.eq_false_iff.mpr c8; subst c8; rw [if_neg (show ¬ (false = true) by decide)] at H; obtain rfl := Option.some.inj H; (try go_wp2); replace HB := Aside0.mk (below_drew1 HB.out); have p101 : 0 ≤ (x5_1 : Int) := of_decide_eq_true zz3; have q101 : x5_1 < (l0.length : Int) := of_decide_eq_true zz3; obtain ⟨ad101, e101, hx101_0, hx101_1⟩ := at_T57 HR0.out x5_1 p101 q101; have hw101_1 := hx101_1; have hw101_0 := hx101_0; cases e101; replace hx101_0 := (HB.out.cell (World.block_lt_of_cell? w _ hx101_0)).trans hx101_0; replace hx101_1 := (HB.out.cell (World.block_lt_of_cell? w _ hx101_1)).trans hx101_1; replace p101 := eq_true p101; replace q101 := eq_true q101; have p102 : 0 ≤ (x5_1 : Int) := of_decide_eq_true zz3; have q102 : x5_1 < (l1.length : Int) := of_decide_eq_true zz3; obtain ⟨ad102, e102, hx102_0, hx102_1⟩ := at_T57 HR1.out x5_1 p102 q102; have hw102_1 := hx102_1; have hw102_0 := hx102_0; cases e102; replace hx102_0 := (HB.out.cell (World.block_lt_of_cell? w _ hx102_0)).trans hx102_0; replace hx102_1 := (HB.out.cell (World.block_lt_of_cell? w _ hx102_1)).trans hx102_1; replace p102 := eq_true p102; replace q102 := eq_true q102; refine start_ (n := 10) (S := fun w' => w'.cell? (ad101.add ((x5_1).toNat * 2)) = some (.int .i64 ((rd_T57 l0 x5_1).f0)) ∧ w'.cell? ⟨(ad101.add ((x5_1).toNat * 2)).block, (ad101.add ((x5_1).toNat * 2)).off + 1, none⟩ = some (.int .i64 ((rd_T57 l0 x5_1).f1)) ∧ w'.cell? (ad102.add ((x5_1).toNat * 2)) = some (.int .i64 ((rd_T57 l1 x5_1).f0)) ∧ w'.cell? ⟨(ad102.add ((x5_1).toNat * 2)).block, (ad102.add ((x5_1).toNat * 2)).off + 1, none⟩ = some (.int .i64 ((rd_T57 l1 x5_1).f1))) (ds := []) (zM 10 0) (by kernel_rfl) rfl rfl ⟨((HB.out.cell (World.block_lt_of_cell? w _ hw101_0)).trans hw101_0), ((HB.out.cell (World.block_lt_of_cell? w _ hw101_1)).trans hw101_1), ((HB.out.cell (World.block_lt_of_cell? w _ hw102_0)).trans hw102_0), ((HB.out.cell (World.block_lt_of_cell? w _ hw102_1)).trans hw102_1)⟩ (fun hHeld => ?_); refine with_tabW laws_eqEdgeS.tab6 laws_eqEdgeS.bits6 (fun HT_ HW_ => ?_); generalize wr.drew = w11 at HB hx101_0 hx101_1 hx102_0 hx102_1 hHeld ⊢; refine zQ 0 17 (zM 10 1) ?_
    refine zQ 1 18 (zM 10 3) ?_
    refine zQ 2 19 (zM 10 7) ?_
    refine zQ 4 21 (zM 10 23) ?_
    refine zQ 5 22 (zM 10 55) ?_
    refine zQ 6 23 (zM 10 119) ?_
    refine take_ (i := 3) (N := some 20) (v := ?_) (a' := ?_) (zM 10 127) rfl rfl (take_ofW HT_.out HW_.out (by kernel_rfl)) (fun _ _ _ h => h) (Or.inl ⟨by rfl, ?_⟩) hHeld ?_ ?_; rotate_left
    ·rintro w' ⟨s0, s1, s2, s3⟩; exact zzT
    rotate_left
    ·exact zzS
    refine take_ (i := 7) (N := some 24) (v := ?_) (a' := ?_) (zM 10 255) rfl rfl (take_ofW HT_.out HW_.out (by kernel_rfl)) (fun _ _ _ h => h) (Or.inl ⟨by rfl, ?_⟩) hHeld ?_ ?_; rotate_left
    ·rintro w' ⟨s0, s1, s2, s3⟩; exact zzT
    rotate_left
    ·exact zzS
    refine one_ (i := 8) (N := some 25) (zM 10 511) rfl rfl (one_of HT_.out (by kernel_rfl)) (by decide) (fun K hK => ?_); refine goes_ Try.func98 (by kernel_rfl) rfl #[.agg #[.int .i64 ((rd_T57 l0 x5_1).f0), .int .i64 ((rd_T57 l0 x5_1).f1)], .agg #[.int .i64 ((rd_T57 l1 x5_1).f0), .int .i64 ((rd_T57 l1 x5_1).f1)]] (by rfl) rfl rfl zz4 ?_; (with_reducible refine (laws_eqEdge.calls ((rd_T57 l0 x5_1).f0) ((rd_T57 l0 x5_1).f1) ((rd_T57 l1 x5_1).f0) ((rd_T57 l1 x5_1).f1) false _ A7.out).mono ?_); rintro e w12 ⟨rfl, hb⟩; refine ⟨_, rfl, ?_⟩; replace HB := Aside0.mk (below_step zz1 hb); clear hb; refine hK.out _ _ ⟨((HB.out.cell (World.block_lt_of_cell? w _ hw101_0)).trans hw101_0), ((HB.out.cell (World.block_lt_of_cell? w _ hw101_1)).trans hw101_1), ((HB.out.cell (World.block_lt_of_cell? w _ hw102_0)).trans hw102_0), ((HB.out.cell (World.block_lt_of_cell? w _ hw102_1)).trans hw102_1)⟩ (fun hHeld => ?_); clear hK K; refine norm_ (a' := ?_) ?_ ?_; rotate_left
    ·show Act.put _ (some 25) _ = _; exact zzS
    refine zQ 9 26 (zM 10 1023) ?_
    refine done_ (done_of HT_.out (by kernel_rfl)) ?_; (try go_wp2); go_ret; exact ⟨zz7, zz1⟩
   subst c8; rw [if_pos rfl] at H; have H' := Aside0.mk H; clear H; (try go_wp2); replace HB := Aside0.mk (below_drew1 HB.out); have p101 : 0 ≤ (x5_1 : Int) := of_decide_eq_true zz3; have q101 : x5_1 < (l0.length : Int) := of_decide_eq_true zz3; obtain ⟨ad101, e101, hx101_0, hx101_1⟩ := at_T57 HR0.out x5_1 p101 q101; have hw101_1 := hx101_1; have hw101_0 := hx101_0; cases e101; replace hx101_0 := (HB.out.cell (World.block_lt_of_cell? w _ hx101_0)).trans hx101_0; replace hx101_1 := (HB.out.cell (World.block_lt_of_cell? w _ hx101_1)).trans hx101_1; replace p101 := eq_true p101; replace q101 := eq_true q101; have p102 : 0 ≤ (x5_1 : Int) := of_decide_eq_true zz3; have q102 : x5_1 < (l1.length : Int) := of_decide_eq_true zz3; obtain ⟨ad102, e102, hx102_0, hx102_1⟩ := at_T57 HR1.out x5_1 p102 q102; have hw102_1 := hx102_1; have hw102_0 := hx102_0; cases e102; replace hx102_0 := (HB.out.cell (World.block_lt_of_cell? w _ hx102_0)).trans hx102_0; replace hx102_1 := (HB.out.cell (World.block_lt_of_cell? w _ hx102_1)).trans hx102_1; replace p102 := eq_true p102; replace q102 := eq_true q102; refine start_ (n := 10) (S := fun w' => w'.cell? (ad101.add ((x5_1).toNat * 2)) = some (.int .i64 ((rd_T57 l0 x5_1).f0)) ∧ w'.cell? ⟨(ad101.add ((x5_1).toNat * 2)).block, (ad101.add ((x5_1).toNat * 2)).off + 1, none⟩ = some (.int .i64 ((rd_T57 l0 x5_1).f1)) ∧ w'.cell? (ad102.add ((x5_1).toNat * 2)) = some (.int .i64 ((rd_T57 l1 x5_1).f0)) ∧ w'.cell? ⟨(ad102.add ((x5_1).toNat * 2)).block, (ad102.add ((x5_1).toNat * 2)).off + 1, none⟩ = some (.int .i64 ((rd_T57 l1 x5_1).f1))) (ds := []) (zM 10 0) (by kernel_rfl) rfl rfl ⟨((HB.out.cell (World.block_lt_of_cell? w _ hw101_0)).trans hw101_0), ((HB.out.cell (World.block_lt_of_cell? w _ hw101_1)).trans hw101_1), ((HB.out.cell (World.block_lt_of_cell? w _ hw102_0)).trans hw102_0), ((HB.out.cell (World.block_lt_of_cell? w _ hw102_1)).trans hw102_1)⟩ (fun hHeld => ?_); refine with_tabW laws_eqEdgeS.tab6 laws_eqEdgeS.bits6 (fun HT_ HW_ => ?_); generalize wr.drew = w9 at HB hx101_0 hx101_1 hx102_0 hx102_1 hHeld ⊢; refine zQ 0 17 (zM 10 1) ?_
   refine zQ 1 18 (zM 10 3) ?_
   refine zQ 2 19 (zM 10 7) ?_
   refine zQ 4 21 (zM 10 23) ?_
   refine zQ 5 22 (zM 10 55) ?_
   refine zQ 6 23 (zM 10 119) ?_
   refine take_ (i := 3) (N := some 20) (v := ?_) (a' := ?_) (zM 10 127) rfl rfl (take_ofW HT_.out HW_.out (by kernel_rfl)) (fun _ _ _ h => h) (Or.inl ⟨by rfl, ?_⟩) hHeld ?_ ?_; rotate_left
   ·rintro w' ⟨s0, s1, s2, s3⟩; exact zzT
   rotate_left
   ·exact zzS
   refine take_ (i := 7) (N := some 24) (v := ?_) (a' := ?_) (zM 10 255) rfl rfl (take_ofW HT_.out HW_.out (by kernel_rfl)) (fun _ _ _ h => h) (Or.inl ⟨by rfl, ?_⟩) hHeld ?_ ?_; rotate_left
   ·rintro w' ⟨s0, s1, s2, s3⟩; exact zzT
   rotate_left
   ·exact zzS
   refine one_ (i := 8) (N := some 25) (zM 10 511) rfl rfl (one_of HT_.out (by kernel_rfl)) (by decide) (fun K hK => ?_); refine goes_ Try.func98 (by kernel_rfl) rfl #[.agg #[.int .i64 ((rd_T57 l0 x5_1).f0), .int .i64 ((rd_T57 l0 x5_1).f1)], .agg #[.int .i64 ((rd_T57 l1 x5_1).f0), .int .i64 ((rd_T57 l1 x5_1).f1)]] (by rfl) rfl rfl zz4 ?_; (with_reducible refine (laws_eqEdge.calls ((rd_T57 l0 x5_1).f0) ((rd_T57 l0 x5_1).f1) ((rd_T57 l1 x5_1).f0) ((rd_T57 l1 x5_1).f1) true _ A7.out).mono ?_); rintro e w10 ⟨rfl, hb⟩; refine ⟨_, rfl, ?_⟩; replace HB := Aside0.mk (below_step zz1 hb); clear hb; refine hK.out _ _ ⟨((HB.out.cell (World.block_lt_of_cell? w _ hw101_0)).trans hw101_0), ((HB.out.cell (World.block_lt_of_cell? w _ hw101_1)).trans hw101_1), ((HB.out.cell (World.block_lt_of_cell? w _ hw102_0)).trans hw102_0), ((HB.out.cell (World.block_lt_of_cell? w _ hw102_1)).trans hw102_1)⟩ (fun hHeld => ?_); clear hK K; refine norm_ (a' := ?_) ?_ ?_; rotate_left
   ·show Act.put _ (some 25) _ = _; exact zzS
   refine zQ 9 26 (zM 10 1023) ?_
   refine done_ (done_of HT_.out (by kernel_rfl)) ?_; (try go_wp2); go_roundg k1; (case measure => have := HK1.out; omega); case rel => exact ⟨(wrap64 (x5_1 + 1)), zz5, H', ⟨zz36⟩, ⟨zz1⟩⟩
def laws_eqGraph.f (k : Nat) (a0_0 : Int) (l0_1 : List (S57)) (a1_0 : Int) (l1_1 : List (S57)) : Option (Bool) := if a0_0 = a1_0 then ((laws_eqEdgeS.f k l0_1 l1_1).bind fun t103 => (if t103 = true then (some true) else (some false))) else (some false)
theorem laws_eqGraph.mono : ∀ a0 a1 a2 a3 k, LeO (laws_eqGraph.f k a0 a1 a2 a3) (laws_eqGraph.f (k + 1) a0 a1 a2 a3) := by
 intro a0 a1 a2 a3 k; unfold laws_eqGraph.f; repeat' first | (with_reducible apply laws_eqEdgeS.mono) | (with_reducible exact LeO.refl _) | (with_reducible exact LeO.none _) | (with_reducible refine LeO.ite ?_ ?_) | (with_reducible refine LeO.bind ?_ (fun _ => ?_)) | apply laws_eqEdgeS.mono | exact LeO.none _ | refine LeO.ite ?_ ?_ | refine LeO.bind ?_ (fun _ => ?_)
set_option maxHeartbeats 8000000 in
set_option maxRecDepth 100000 in
theorem laws_eqGraph.calls (k : Nat) (a0_0 : Int) (A0_1 : Option Addr) (c0_1 : Nat) (l0_1 : List (S57)) (a1_0 : Int) (A1_1 : Option Addr) (c1_1 : Nat) (l1_1 : List (S57)) (r : Bool) (w : World) (hr0_1 : Kd.C k57 w A0_1 l0_1.length l0_1) (hc0_1 : l0_1.length ≤ c0_1) (hr1_1 : Kd.C k57 w A1_1 l1_1.length l1_1) (hc1_1 : l1_1.length ≤ c1_1) (h : laws_eqGraph.f k a0_0 l0_1 a1_0 l1_1 = some r) :
  Calls Try.prog 20 #[.agg #[.int .i64 a0_0, .slice A0_1 l0_1.length c0_1], .agg #[.int .i64 a1_0, .slice A1_1 l1_1.length c1_1]] w fun e w' => e = .returned (.bool r) ∧ Below w.heap.size w w' := by
 have hu25 := Try.underlying25; have HR0_1 := Aside0.mk hr0_1; have HC0_1 := Aside0.mk hc0_1; clear hr0_1 hc0_1; have HR1_1 := Aside0.mk hr1_1; have HC1_1 := Aside0.mk hc1_1; clear hr1_1 hc1_1; have HB := Aside0.mk (Below.refl w.heap.size w); have H : (if a0_0 = a1_0 then ((laws_eqEdgeS.f k l0_1 l1_1).bind fun t103 => (if t103 = true then (some true) else (some false))) else (some false)) = some r := h; clear h; by_cases c3 : a0_0 = a1_0; rotate_left
 ·rw [if_neg c3] at H; have c3b0 : (a0_0 == a1_0) = false := beq_eq_false_iff_ne.mpr c3; have c3b1 : (a0_0 != a1_0) = true := bne_iff_ne.mpr c3; obtain rfl := Option.some.inj H; go_enter Try.func20, Try.ntmps20; (go_wp2_with (first | ((with_reducible refine gate_dst (N := 2) rfl ?_); refine box_event ?hg (N := 2) ?hd (cs := #[.int .i64 a0_0, .slice A0_1 l0_1.length c0_1]) (t := 25) ?hr ?_; (case hd => rfl); (case hg => rfl); (case hr => exact zz9); intro gb101 hg w18 hbox hb; have n_ := zA4 (below_step zz1 hb) hbox (zz10 : w.heap.size ≤ gb101) (zz10 : w.heap.size ≤ gb101); clear HB; obtain ⟨HB, BK101, GW101, GE101⟩ := n_; clear hb hbox hg) | ((with_reducible refine gate_dst (N := 3) rfl ?_); refine box_event ?hg (N := 3) ?hd (cs := #[.int .i64 a1_0, .slice A1_1 l1_1.length c1_1]) (t := 25) ?hr ?_; (case hd => rfl); (case hg => rfl); (case hr => exact zz9); intro gb102 hg w19 hbox hb; have n_ := zA7 (blk_below (g := gb101) (o := .cells #[.int .i64 a0_0, .slice A0_1 l0_1.length c0_1] 25 (0, 0)) zz2 hb) (below_step zz0 hb) hbox (zz13 : w.heap.size ≤ gb102) (zz13 : w.heap.size ≤ gb102) (zz56 : gb101 ≠ gb102) (zz57 : gb102 ≠ gb101); clear BK101 HB; obtain ⟨BK101, HB, BK102, GW102, GE102, NB101_102, NB102_101⟩ := n_; clear hb hbox hg; have hnb20 := NB101_102.out; have hnc20 := NB102_101.out; have hcz21_0 := zC20 BK101; have hcz21_1 := zC21 BK101; have hfz21_0 := blk_frozen BK101.out 0; have hfz21_1 := blk_frozen BK101.out 1; have hcz22_0 := zC20 BK102; have hcz22_1 := zC21 BK102; have hfz22_0 := blk_frozen BK102.out 0; have hfz22_1 := blk_frozen BK102.out 1))); go_ret; exact ⟨zz7, zz14⟩
 rw [if_pos c3] at H; have c3b0 : (a0_0 == a1_0) = true := beq_iff_eq.mpr c3; have c3b1 : (a0_0 != a1_0) = false := bne_eq_false_iff_eq.mpr c3; clear c3; replace H := Option.bind_eq_some_iff.mp H; obtain ⟨t103, A40, H⟩ := H; (try dsimp only at H); have A4 := Aside0.mk A40; clear A40; by_cases c5 : t103 = true
 ·subst c5; rw [if_pos rfl] at H; obtain rfl := Option.some.inj H; go_enter Try.func20, Try.ntmps20; (go_wp2_with (first | ((with_reducible refine gate_dst (N := 2) rfl ?_); refine box_event ?hg (N := 2) ?hd (cs := #[.int .i64 a0_0, .slice A0_1 l0_1.length c0_1]) (t := 25) ?hr ?_; (case hd => rfl); (case hg => rfl); (case hr => exact zz9); intro gb101 hg w6 hbox hb; have n_ := zA4 (below_step zz1 hb) hbox (zz10 : w.heap.size ≤ gb101) (zz10 : w.heap.size ≤ gb101); clear HB; obtain ⟨HB, BK101, GW101, GE101⟩ := n_; clear hb hbox hg) | ((with_reducible refine gate_dst (N := 3) rfl ?_); refine box_event ?hg (N := 3) ?hd (cs := #[.int .i64 a1_0, .slice A1_1 l1_1.length c1_1]) (t := 25) ?hr ?_; (case hd => rfl); (case hg => rfl); (case hr => exact zz9); intro gb102 hg w7 hbox hb; have n_ := zA7 (blk_below (g := gb101) (o := .cells #[.int .i64 a0_0, .slice A0_1 l0_1.length c0_1] 25 (0, 0)) zz2 hb) (below_step zz0 hb) hbox (zz13 : w.heap.size ≤ gb102) (zz13 : w.heap.size ≤ gb102) (zz56 : gb101 ≠ gb102) (zz57 : gb102 ≠ gb101); clear BK101 HB; obtain ⟨BK101, HB, BK102, GW102, GE102, NB101_102, NB102_101⟩ := n_; clear hb hbox hg; have hnb8 := NB101_102.out; have hnc8 := NB102_101.out; have hcz9_0 := zC20 BK101; have hcz9_1 := zC21 BK101; have hfz9_0 := blk_frozen BK101.out 0; have hfz9_1 := blk_frozen BK101.out 1; have hcz10_0 := zC20 BK102; have hcz10_1 := zC21 BK102; have hfz10_0 := blk_frozen BK102.out 0; have hfz10_1 := blk_frozen BK102.out 1) | ((with_reducible refine gate_callee (f := 61) rfl ?_); refine goesL_ (some 14) rfl rfl Try.func61 (by kernel_rfl) rfl #[.slice A0_1 l0_1.length c0_1, .slice A1_1 l1_1.length c1_1] rfl zz4 ?_; (with_reducible refine (laws_eqEdgeS.calls k _ _ l0_1 _ _ l1_1 true _ ?side1 ?side2 ?side3 ?side4 A4.out).mono ?_); (case side1 => exact zz6); (case side2 => exact HC0_1.out); (case side3 => repeat (first | exact (Kd.C_below HR1_1.out HB.out) | (with_reducible refine Kd.C_alloc ?_ _) | (with_reducible refine Kd.C_drewN ?_ _) | (with_reducible refine Kd.C_drew ?_))); (case side4 => exact HC1_1.out); rintro e w11 ⟨rfl, hb⟩; refine ⟨_, rfl, ?_⟩; have n_ := zA3 (blk_below (g := gb101) (o := .cells #[.int .i64 a0_0, .slice A0_1 l0_1.length c0_1] 25 (0, 0)) zz2 hb) (blk_below (g := gb102) (o := .cells #[.int .i64 a1_0, .slice A1_1 l1_1.length c1_1] 25 (0, 0)) zz23 hb) (below_step zz14 hb); clear BK101 BK102 HB; obtain ⟨BK101, BK102, HB⟩ := n_; clear hb))); go_ret; exact ⟨zz7, zz14⟩
 replace c5 := Bool.eq_false_iff.mpr c5; subst c5; rw [if_neg (show ¬ (false = true) by decide)] at H; obtain rfl := Option.some.inj H; go_enter Try.func20, Try.ntmps20; (go_wp2_with (first | ((with_reducible refine gate_dst (N := 2) rfl ?_); refine box_event ?hg (N := 2) ?hd (cs := #[.int .i64 a0_0, .slice A0_1 l0_1.length c0_1]) (t := 25) ?hr ?_; (case hd => rfl); (case hg => rfl); (case hr => exact zz9); intro gb101 hg w12 hbox hb; have n_ := zA4 (below_step zz1 hb) hbox (zz10 : w.heap.size ≤ gb101) (zz10 : w.heap.size ≤ gb101); clear HB; obtain ⟨HB, BK101, GW101, GE101⟩ := n_; clear hb hbox hg) | ((with_reducible refine gate_dst (N := 3) rfl ?_); refine box_event ?hg (N := 3) ?hd (cs := #[.int .i64 a1_0, .slice A1_1 l1_1.length c1_1]) (t := 25) ?hr ?_; (case hd => rfl); (case hg => rfl); (case hr => exact zz9); intro gb102 hg w13 hbox hb; have n_ := zA7 (blk_below (g := gb101) (o := .cells #[.int .i64 a0_0, .slice A0_1 l0_1.length c0_1] 25 (0, 0)) zz2 hb) (below_step zz0 hb) hbox (zz13 : w.heap.size ≤ gb102) (zz13 : w.heap.size ≤ gb102) (zz56 : gb101 ≠ gb102) (zz57 : gb102 ≠ gb101); clear BK101 HB; obtain ⟨BK101, HB, BK102, GW102, GE102, NB101_102, NB102_101⟩ := n_; clear hb hbox hg; have hnb14 := NB101_102.out; have hnc14 := NB102_101.out; have hcz15_0 := zC20 BK101; have hcz15_1 := zC21 BK101; have hfz15_0 := blk_frozen BK101.out 0; have hfz15_1 := blk_frozen BK101.out 1; have hcz16_0 := zC20 BK102; have hcz16_1 := zC21 BK102; have hfz16_0 := blk_frozen BK102.out 0; have hfz16_1 := blk_frozen BK102.out 1) | ((with_reducible refine gate_callee (f := 61) rfl ?_); refine goesL_ (some 14) rfl rfl Try.func61 (by kernel_rfl) rfl #[.slice A0_1 l0_1.length c0_1, .slice A1_1 l1_1.length c1_1] rfl zz4 ?_; (with_reducible refine (laws_eqEdgeS.calls k _ _ l0_1 _ _ l1_1 false _ ?side1 ?side2 ?side3 ?side4 A4.out).mono ?_); (case side1 => exact zz6); (case side2 => exact HC0_1.out); (case side3 => repeat (first | exact (Kd.C_below HR1_1.out HB.out) | (with_reducible refine Kd.C_alloc ?_ _) | (with_reducible refine Kd.C_drewN ?_ _) | (with_reducible refine Kd.C_drew ?_))); (case side4 => exact HC1_1.out); rintro e w17 ⟨rfl, hb⟩; refine ⟨_, rfl, ?_⟩; have n_ := zA3 (blk_below (g := gb101) (o := .cells #[.int .i64 a0_0, .slice A0_1 l0_1.length c0_1] 25 (0, 0)) zz2 hb) (blk_below (g := gb102) (o := .cells #[.int .i64 a1_0, .slice A1_1 l1_1.length c1_1] 25 (0, 0)) zz23 hb) (below_step zz14 hb); clear BK101 BK102 HB; obtain ⟨BK101, BK102, HB⟩ := n_; clear hb))); go_ret; exact ⟨zz7, zz14⟩
def laws_markEdgeS.l0 : Nat → List (S57) → Int → Int → Option (Int × (List (S57)))
 | 0, _, _, _ => none
 | k + 1, x0, x1, x5 => if x5 < (x0.length : Int) then (if 0 ≤ x5 then ((some (x0.set (x5 : Int).toNat (⟨x1, (rd_T57 x0 x5).f1⟩ : S57) : List (S57))).bind fun y101 => (laws_markEdgeS.l0 k (y101.set (x5 : Int).toNat (⟨(rd_T57 y101 x5).f0, wrap64 (x1 + 1)⟩ : S57)) (wrap64 ((wrap64 (x1 + 1)) + 1)) (wrap64 (x5 + 1)))) else (none)) else (some (x1, x0))
def laws_markEdgeS.f (k : Nat) (l0 : List (S57)) (a1 : Int) : Option (Int × (List (S57))) := laws_markEdgeS.l0 k l0 a1 0
theorem laws_markEdgeS.mono_l : ∀ k, (∀ y0 y1 y2, LeO (laws_markEdgeS.l0 k y0 y1 y2) (laws_markEdgeS.l0 (k + 1) y0 y1 y2))
 | 0 => fun _ _ _ r h => by simp [laws_markEdgeS.l0] at h
 | k + 1 => by
  have ih0 := laws_markEdgeS.mono_l k
  ·intro y0 y1 y2
   unfold laws_markEdgeS.l0
   exact zm0
theorem laws_markEdgeS.mono : ∀ a0 a1 k, LeO (laws_markEdgeS.f k a0 a1) (laws_markEdgeS.f (k + 1) a0 a1) := by
 intro a0 a1 k; have ih0 := laws_markEdgeS.mono_l k; unfold laws_markEdgeS.f; exact zm0
set_option maxHeartbeats 8000000 in
set_option maxRecDepth 100000 in
theorem laws_markEdgeS.calls (k : Nat) (P0_ : Nat → Prop) (u9000_ : Value) (l0 : List (S57)) (a1 : Int) (r1 : Int) (r2 : List (S57)) (w0 w : World) (hB : Below w0.heap.size w0 w) (ho0 : Kd.R k57 57 w w0.heap.size P0_ u9000_ l0) (h : laws_markEdgeS.f k l0 a1 = some (r1, r2)) :
  Calls Try.prog 62 #[u9000_, .int .i64 a1] w fun e w' => e = .returned (.int .i64 r1) ∧ Kd.R k57 57 w' w0.heap.size (fun k_ => (P0_ k_ ∨ w.heap.size ≤ k_)) u9000_ r2 ∧ Below w0.heap.size w0 w' ∧ Kept w w' (fun k_ => P0_ k_) := by
 have HO0 := Aside0.mk (show Kd.R k57 57 w w0.heap.size (fun k_ => (P0_ k_ ∨ w.heap.size ≤ k_)) u9000_ l0 from Kd.R_mono ho0 (fun k_ hk => (.inl hk))); have HK := Aside0.mk (Kept.refl w (fun k_ => P0_ k_)); have HW0 := Aside0.mk hB.size; have HB := Aside0.mk hB; clear hB; have H : (laws_markEdgeS.l0 k l0 a1 0) = some (r1, r2) := h; clear h; have H' := Aside0.mk H; clear H; go_enter Try.func62, Try.ntmps62; go_wp2; (go_loopg [1, 5] k (fun kq v1 v5 w' => ∃ (x0_1 : List (S57)) (x1_1 : Int) (x5_1 : Int), v1 = .int .i64 x1_1 ∧ v5 = .int .i64 x5_1 ∧ Aside0 (laws_markEdgeS.l0 kq x0_1 x1_1 x5_1 = some (r1, r2)) ∧ Aside0 (kq ≤ k) ∧ Aside0 (Kd.R k57 57 w' w0.heap.size (fun k_ => (P0_ k_ ∨ w.heap.size ≤ k_)) u9000_ x0_1) ∧ Aside0 (Kept w w' (fun k_ => P0_ k_)) ∧ Aside0 (Below w0.heap.size w0 w'))); case atStart => exact ⟨(l0), (a1), (0), zz5, zz5, H', ⟨Nat.le_refl _⟩, ⟨by (with_reducible repeat (first | apply Kd.R_alloc | apply Kd.R_drewN | apply Kd.R_drew)); exact HO0.out⟩, ⟨zz39⟩, ⟨zz1⟩⟩
 case round =>
  clear H'; (try clear p2); obtain ⟨x0_1, x1_1, x5_1, rfl, rfl, HA, HK1, HO_0, HK, HB⟩ := hrel
  cases gk with
  | zero => exact absurd HA.out (by simp [laws_markEdgeS.l0])
  | succ k1 =>
   have H := HA.out; clear HA; simp only [laws_markEdgeS.l0] at H; by_cases c3 : x5_1 < (x0_1.length : Int); rotate_left
   ·rw [if_neg c3] at H; have c3b0 := decide_eq_false c3; clear c3; simp only [Option.some.injEq, Prod.mk.injEq] at H; obtain ⟨rfl, rfl⟩ := H; obtain ⟨Ao12, co12, eo12⟩ := Kd.R_slice HO_0.out; subst eo12; go_wp2; go_ret; exact ⟨zz7, by (with_reducible repeat (first | apply Kd.R_alloc | apply Kd.R_drewN | apply Kd.R_drew)); exact HO_0.out, zz1, zz39⟩
   rw [if_pos c3] at H; have c3b0 := decide_eq_true c3; clear c3; by_cases c4 : 0 ≤ x5_1; rotate_left
   ·rw [if_neg c4] at H; exact absurd H (by simp)
   rw [if_pos c4] at H; have c4b0 := decide_eq_true c4; clear c4; obtain ⟨y101, hy_⟩ : ∃ y_ : List (S57), y_ = (x0_1.set (x5_1 : Int).toNat (⟨x1_1, (rd_T57 x0_1 x5_1).f1⟩ : S57)) := ⟨_, rfl⟩; (replace H : (laws_markEdgeS.l0 k1 (y101.set (x5_1 : Int).toNat (⟨(rd_T57 y101 x5_1).f0, wrap64 (x1_1 + 1)⟩ : S57)) (wrap64 ((wrap64 (x1_1 + 1)) + 1)) (wrap64 (x5_1 + 1))) = some (r1, r2) := zzY); have Ny101 := Aside0.mk hy_; clear hy_; obtain ⟨y102, hy_⟩ : ∃ y_ : List (S57), y_ = (y101.set (x5_1 : Int).toNat (⟨(rd_T57 y101 x5_1).f0, wrap64 (x1_1 + 1)⟩ : S57)) := ⟨_, rfl⟩; (replace H : (laws_markEdgeS.l0 k1 y102 (wrap64 ((wrap64 (x1_1 + 1)) + 1)) (wrap64 (x5_1 + 1))) = some (r1, r2) := zzY); have Ny102 := Aside0.mk hy_; clear hy_; have H' := Aside0.mk H; clear H; obtain ⟨Ao7, co7, eo7⟩ := Kd.R_slice HO_0.out; subst eo7; have p5 : 0 ≤ (x5_1 : Int) := of_decide_eq_true zz3; have q5 : (x5_1 : Int) < ((x0_1.length : Int) : Int) := of_decide_eq_true zz3; obtain ⟨go5, co5, eo5, gb5, gl5, cl5, HG5⟩ := Kd.R_form HO_0.out (by omega); (first | cases eo5 | (injection eo5 with ea_ en_ ec_; (first | subst ea_ | (injection ea_ with ea_; subst ea_)); subst ec_; clear en_)); have GB5 := Aside0.mk gb5; have GG5 := Aside0.mk HG5; clear gb5 gl5 HG5; have HMgo5 := Aside0.mk (show (P0_ go5 ∨ w.heap.size ≤ go5) from (HO_0.out.1 _ rfl)); obtain ⟨ce5, hcl5, hM5, hcc5, hfr5⟩ := Kd.R_elem HO_0.out z57 (x5_1 : Int) p5 q5; obtain rfl := k57_openM hM5; have hx5_0 : wr.cell? ⟨go5, (x5_1 : Int).toNat * 2, none⟩ = some (.int .i64 ((rd_T57 x0_1 x5_1).f0)) := hcc5 0 _ rfl; have hx5_1 : wr.cell? ⟨go5, (x5_1 : Int).toNat * 2 + 1, none⟩ = some (.int .i64 ((rd_T57 x0_1 x5_1).f1)) := hcc5 1 _ rfl; have hf5_0 : wr.frozen? ⟨go5, (x5_1 : Int).toNat * 2, none⟩ = false := hfr5 0; have hf5_1 : wr.frozen? ⟨go5, (x5_1 : Int).toNat * 2 + 1, none⟩ = false := hfr5 1; clear hcl5 hcc5 hfr5; (try clear hM5); replace p5 := eq_true p5; replace q5 := eq_true q5; have HX8 := Aside0.mk (show Kd.R k57 57 wr w0.heap.size (fun k_ => (P0_ k_ ∨ w.heap.size ≤ k_)) (.slice (some ⟨go5, 0, none⟩) x0_1.length co7) x0_1 from (by (with_reducible repeat (first | apply Kd.R_alloc | apply Kd.R_drewN | apply Kd.R_drew)); exact HO_0.out)); obtain ⟨ce8, hcl8, hM8, hcc8, hfr8⟩ := Kd.R_elem HX8.out z57 (x5_1 : Int) (of_decide_eq_true zz3) (by have h_ : (x5_1 : Int) < ((x0_1.length : Int) : Int) := of_decide_eq_true zz3; first | exact h_ | (have e_ := (Kd.R_reads' HO_0.out).1; omega) | simpa using h_); obtain rfl := k57_openM hM8; have HP8 := Kd.R_seg HX8.out (x5_1 : Int) (of_decide_eq_true zz3) (by have h_ : (x5_1 : Int) < ((x0_1.length : Int) : Int) := of_decide_eq_true zz3; first | exact h_ | (have e_ := (Kd.R_reads' HO_0.out).1; omega) | simpa using h_) (seg := [.int .i64 x1_1]) (j := 0) hcl8 hcc8 (show 1 ≤ 2 from by decide) (x' := (⟨x1_1, (rd_T57 x0_1 x5_1).f1⟩ : S57)) (k57_mkM _ _ _ (⟨x1_1, (rd_T57 x0_1 x5_1).f1⟩ : S57) ) (fun _ hk => hk); have hx8_0 := hcc8 0 _ rfl; (try simp only [show (k57).sz = 2 from rfl, Nat.mul_one, Nat.add_zero] at hx8_0); have hf8_0 := hfr8 0; (try simp only [show (k57).sz = 2 from rfl, Nat.mul_one, Nat.add_zero] at hf8_0); clear hcl8 hcc8 hfr8; (try clear hM8); (go_wp2_with (first | ((with_reducible refine gate_store (t := 3) (p := 16) rfl ?_); refine store_event (t := 3) (p := 16) (v := ?vo_w9) (w1 := (wr.setCell ⟨go5, (x5_1 : Int).toNat * 2, none⟩ (.int .i64 x1_1))) ?hg ?ho ?hn ?hr ?_; (case ho => rfl); (case hg => rfl); (case hn => rfl); (case hr => exact zz9); intro w9 hw; have hg : wr.grownBy w9 (some go5) := (by rw [hw]; exact HP8.2); have hp_ : Kd.R k57 57 w9 w0.heap.size (fun k_ => (P0_ k_ ∨ w.heap.size ≤ k_)) (.slice (some ⟨go5, 0, none⟩) x0_1.length co7) y101 := (by rw [hw, Ny101.out]; exact HP8.1); clear HP8; have n_ := zA3 hp_ (by rw [hw]; exact below_set (HB.out) GB5.out : Below w0.heap.size w0 w9) (Kept.of_grown (S := (fun k_ => P0_ k_)) hg zz39 (fun k_ e_ => (HO_0.out.1 k_ e_))); clear HO_0 HB HK; obtain ⟨HO_0, HB, HK⟩ := n_; clear hg hw hp_; have p6 : 0 ≤ (x5_1 : Int) := of_decide_eq_true zz3; have q6 : (x5_1 : Int) < ((x0_1.length : Int) : Int) := of_decide_eq_true zz3; obtain ⟨ce6, hcl6, hM6, hcc6, hfr6⟩ := Kd.R_elem HO_0.out z57 (x5_1 : Int) p6 q6; obtain rfl := k57_openM hM6; have hx6_0 : w9.cell? ⟨go5, (x5_1 : Int).toNat * 2, none⟩ = some (.int .i64 ((rd_T57 y101 x5_1).f0)) := hcc6 0 _ rfl; have hx6_1 : w9.cell? ⟨go5, (x5_1 : Int).toNat * 2 + 1, none⟩ = some (.int .i64 ((rd_T57 y101 x5_1).f1)) := hcc6 1 _ rfl; have hf6_0 : w9.frozen? ⟨go5, (x5_1 : Int).toNat * 2, none⟩ = false := hfr6 0; have hf6_1 : w9.frozen? ⟨go5, (x5_1 : Int).toNat * 2 + 1, none⟩ = false := hfr6 1; clear hcl6 hcc6 hfr6; (try clear hM6); replace p6 := eq_true p6; replace q6 := eq_true q6; have HX10 := Aside0.mk (show Kd.R k57 57 w9 w0.heap.size (fun k_ => (P0_ k_ ∨ w.heap.size ≤ k_)) (.slice (some ⟨go5, 0, none⟩) x0_1.length co7) y101 from (by (with_reducible repeat (first | apply Kd.R_alloc | apply Kd.R_drewN | apply Kd.R_drew)); exact HO_0.out)); obtain ⟨ce10, hcl10, hM10, hcc10, hfr10⟩ := Kd.R_elem HX10.out z57 (x5_1 : Int) (of_decide_eq_true zz3) (by have h_ : (x5_1 : Int) < ((x0_1.length : Int) : Int) := of_decide_eq_true zz3; first | exact h_ | (have e_ := (Kd.R_reads' HO_0.out).1; omega) | simpa using h_); obtain rfl := k57_openM hM10; have HP10 := Kd.R_seg HX10.out (x5_1 : Int) (of_decide_eq_true zz3) (by have h_ : (x5_1 : Int) < ((x0_1.length : Int) : Int) := of_decide_eq_true zz3; first | exact h_ | (have e_ := (Kd.R_reads' HO_0.out).1; omega) | simpa using h_) (seg := [.int .i64 (wrap64 (x1_1 + 1))]) (j := 1) hcl10 hcc10 (show 2 ≤ 2 from by decide) (x' := (⟨(rd_T57 y101 x5_1).f0, wrap64 (x1_1 + 1)⟩ : S57)) (k57_mkM _ _ _ (⟨(rd_T57 y101 x5_1).f0, wrap64 (x1_1 + 1)⟩ : S57) ) (fun _ hk => hk); have hx10_1 := hcc10 1 _ rfl; (try simp only [show (k57).sz = 2 from rfl, Nat.mul_one, Nat.add_zero] at hx10_1); have hf10_1 := hfr10 1; (try simp only [show (k57).sz = 2 from rfl, Nat.mul_one, Nat.add_zero] at hf10_1); clear hcl10 hcc10 hfr10; (try clear hM10)) | ((with_reducible refine gate_store (t := 3) (p := 23) rfl ?_); refine store_event (t := 3) (p := 23) (v := ?vo_w11) (w1 := (w9.setCell ⟨go5, (x5_1 : Int).toNat * 2 + 1, none⟩ (.int .i64 (wrap64 (x1_1 + 1))))) ?hg ?ho ?hn ?hr ?_; (case ho => rfl); (case hg => rfl); (case hn => rfl); (case hr => exact zz9); intro w11 hw; have hg : w9.grownBy w11 (some go5) := (by rw [hw]; exact HP10.2); have hp_ : Kd.R k57 57 w11 w0.heap.size (fun k_ => (P0_ k_ ∨ w.heap.size ≤ k_)) (.slice (some ⟨go5, 0, none⟩) x0_1.length co7) y102 := (by rw [hw, Ny102.out]; exact HP10.1); clear HP10; have n_ := zA3 hp_ (by rw [hw]; exact below_set (HB.out) GB5.out : Below w0.heap.size w0 w11) (Kept.of_grown (S := (fun k_ => P0_ k_)) hg zz39 (fun k_ e_ => (HO_0.out.1 k_ e_))); clear HO_0 HB HK; obtain ⟨HO_0, HB, HK⟩ := n_; clear hg hw hp_))); go_roundg k1; (case measure => have := HK1.out; omega); case rel => exact ⟨(y102), (wrap64 ((wrap64 (x1_1 + 1)) + 1)), (wrap64 (x5_1 + 1)), zz5, zz5, H', ⟨zz36⟩, ⟨by (with_reducible repeat (first | apply Kd.R_alloc | apply Kd.R_drewN | apply Kd.R_drew)); exact HO_0.out⟩, ⟨zz39⟩, ⟨zz1⟩⟩
def laws_markGraph.f (k : Nat) (a0_0 : Int) (l0_1 : List (S57)) (a1 : Int) : Option (Int × (List (S57))) := (laws_markEdgeS.f k l0_1 a1).bind fun bt102 => (some (bt102.1, bt102.2))
theorem laws_markGraph.mono : ∀ a0 a1 a2 k, LeO (laws_markGraph.f k a0 a1 a2) (laws_markGraph.f (k + 1) a0 a1 a2) := by
 intro a0 a1 a2 k; unfold laws_markGraph.f; repeat' first | (with_reducible apply laws_markEdgeS.mono) | (with_reducible exact LeO.refl _) | (with_reducible exact LeO.none _) | (with_reducible refine LeO.ite ?_ ?_) | (with_reducible refine LeO.bind ?_ (fun _ => ?_)) | apply laws_markEdgeS.mono | exact LeO.none _ | refine LeO.ite ?_ ?_ | refine LeO.bind ?_ (fun _ => ?_)
set_option maxHeartbeats 8000000 in
set_option maxRecDepth 100000 in
theorem laws_markGraph.calls (k : Nat) (a0_0 : Int) (P0_1_ : Nat → Prop) (u9000_ : Value) (l0_1 : List (S57)) (a1 : Int) (r1 : Int) (r2 : List (S57)) (w0 w : World) (hB : Below w0.heap.size w0 w) (ho0_1 : Kd.R k57 57 w w0.heap.size P0_1_ u9000_ l0_1) (h : laws_markGraph.f k a0_0 l0_1 a1 = some (r1, r2)) :
  Calls Try.prog 21 #[.agg #[.int .i64 a0_0, u9000_], .int .i64 a1] w fun e w' => e = .returned (.int .i64 r1) ∧ Kd.R k57 57 w' w0.heap.size (fun k_ => (P0_1_ k_ ∨ w.heap.size ≤ k_)) u9000_ r2 ∧ Below w0.heap.size w0 w' ∧ Kept w w' (fun k_ => P0_1_ k_) := by
 have hu25 := Try.underlying25; have HO0_1 := Aside0.mk (show Kd.R k57 57 w w0.heap.size (fun k_ => (P0_1_ k_ ∨ w.heap.size ≤ k_)) u9000_ l0_1 from Kd.R_mono ho0_1 (fun k_ hk => (.inl hk))); have HK := Aside0.mk (Kept.refl w (fun k_ => P0_1_ k_)); have HW0 := Aside0.mk hB.size; have HB := Aside0.mk hB; clear hB; have H : ((laws_markEdgeS.f k l0_1 a1).bind fun bt102 => (some (bt102.1, bt102.2))) = some (r1, r2) := h; clear h; replace H := Option.bind_eq_some_iff.mp H; obtain ⟨⟨t102, t103⟩, A30, H⟩ := H; dsimp only at H; have A3 := Aside0.mk A30; clear A30; simp only [Option.some.injEq, Prod.mk.injEq] at H; obtain ⟨rfl, rfl⟩ := H; obtain ⟨Ao4, co4, eo4⟩ := Kd.R_slice HO0_1.out; subst eo4; go_enter Try.func21, Try.ntmps21; (go_wp2_with (first | ((with_reducible refine gate_dst (N := 2) rfl ?_); refine box_event ?hg (N := 2) ?hd (cs := #[.int .i64 a0_0, .slice Ao4 l0_1.length co4]) (t := 25) ?hr ?_; (case hd => rfl); (case hg => rfl); (case hr => exact zz9); intro gb101 hg w5 hbox hb; have n_ := zA6 (Kd.R_below (by (with_reducible repeat (first | apply Kd.R_alloc | apply Kd.R_drewN | apply Kd.R_drew)); exact HO0_1.out) hb) (Kept.below (S := (fun k_ => P0_1_ k_)) zz39 hb) (below_step zz1 hb) hbox (by rw [hg]; exact (by first | exact HK.out.1 | exact (show Kept w _ (fun k_ => P0_1_ k_) from by repeat (first | (with_reducible first | exact HK.out | apply Kept.alloc | apply Kept.drewN | apply Kept.drew) | exact HK.out)).1) : w.heap.size ≤ gb101) (zz10 : w0.heap.size ≤ gb101); clear HO0_1 HK HB; obtain ⟨HO0_1, HK, HB, BK101, GW101, GE101⟩ := n_; clear hb hbox hg; have hcz6_0 := zC20 BK101; have hcz6_1 := zC21 BK101; have hfz6_0 := blk_frozen BK101.out 0; have hfz6_1 := blk_frozen BK101.out 1) | ((with_reducible refine gate_callee (f := 62) rfl ?_); refine goesL_ (some 8) rfl rfl Try.func62 (by kernel_rfl) rfl #[.slice Ao4 l0_1.length co4, .int .i64 a1] rfl zz4 ?_; (with_reducible refine (laws_markEdgeS.calls k (fun k_ => some k_ = (.slice Ao4 l0_1.length co4 : Value).ownBlock) (.slice Ao4 l0_1.length co4) l0_1 a1 t102 t103 w0 _ ?side1 ?side2 A3.out).mono ?_); (case side1 => repeat (first | (with_reducible first | exact HB.out | apply below_alloc | apply pw_below_drewN | apply below_drew1 | refine below_set ?_ GE101.out) | exact HB.out)); (case side2 => exact Kd.R_tight rfl HO0_1.out); rintro e w7 ⟨rfl, hy0, hb, hkp⟩; refine ⟨_, rfl, ?_⟩; have n_ := zA4 (Kd.R_reok rfl hy0 (fun k_ e_ => HO0_1.out.1 k_ e_)) (blk_kept zz2 hkp (fun hs_ => (fun e_ => (Kd.R_ne HO0_1.out BK101.out (by decide)) e_) hs_)) (Kept.then_ (S := (fun k_ => P0_1_ k_)) (by repeat (first | (with_reducible first | exact HK.out | apply Kept.alloc | apply Kept.drewN | apply Kept.drew | refine Kept.setCell ?_ (.inr GW101.out) _) | exact HK.out)) hkp (fun k_ hs_ => (fun e_ => (HO0_1.out.1 k_ e_.symm)) hs_)) hb; clear HO0_1 BK101 HK HB; obtain ⟨HO0_1, BK101, HK, HB⟩ := n_; clear hy0 hb hkp))); go_ret; exact ⟨zz7, by (with_reducible repeat (first | apply Kd.R_alloc | apply Kd.R_drewN | apply Kd.R_drew)); exact HO0_1.out, zz0, by repeat (first | (with_reducible first | exact HK.out | apply Kept.alloc | apply Kept.drewN | apply Kept.drew | refine Kept.setCell ?_ (.inr GW101.out) _) | exact HK.out)⟩
def laws_markIntSS.go (k : Nat) : List (List Int) → Int → Option Int
 | [], a => some a
 | x :: xs, a => (laws_markIntS.f k x a).bind fun t => laws_markIntSS.go k xs t.1
def laws_markIntSS.f (k : Nat) (l0 : List (List Int)) (a1 : Int) : Option Int := if l0.length ≤ 1048576 then laws_markIntSS.go k l0 a1 else none
theorem laws_markIntSS.mono_go (k : Nat) : ∀ l a, LeO (laws_markIntSS.go k l a) (laws_markIntSS.go (k + 1) l a)
 | [], a => LeO.refl _
 | x :: xs, a => LeO.bind (laws_markIntS.mono _ _ k) fun t => laws_markIntSS.mono_go k xs t.1
theorem laws_markIntSS.mono : ∀ a0 a1 k, LeO (laws_markIntSS.f k a0 a1) (laws_markIntSS.f (k + 1) a0 a1) := by
 intro a0 a1 k; unfold laws_markIntSS.f; exact LeO.ite (laws_markIntSS.mono_go k _ _) (LeO.refl _)
/-- The rows that are marked, and the next number. -/
def laws_markIntSS.goR (k : Nat) : List (List Int) → Int → Option (List (List Int) × Int)
 | [], a => some ([], a)
 | x :: xs, a => (laws_markIntS.f k x a).bind fun t => (laws_markIntSS.goR k xs t.1).bind fun s => some (t.2 :: s.1, s.2)
def laws_markIntSS.fR (k : Nat) (l0 : List (List Int)) (a1 : Int) : Option (List (List Int) × Int) := if l0.length ≤ 1048576 then laws_markIntSS.goR k l0 a1 else none
theorem laws_markIntSS.mono_goR (k : Nat) : ∀ l a, LeO (laws_markIntSS.goR k l a) (laws_markIntSS.goR (k + 1) l a)
 | [], a => LeO.refl _
 | x :: xs, a => LeO.bind (laws_markIntS.mono _ _ k) fun t => LeO.bind (laws_markIntSS.mono_goR k xs t.1) fun s => LeO.refl _
theorem laws_markIntSS.monoR : ∀ a0 a1 k, LeO (laws_markIntSS.fR k a0 a1) (laws_markIntSS.fR (k + 1) a0 a1) := by
 intro a0 a1 k; unfold laws_markIntSS.fR; exact LeO.ite (laws_markIntSS.mono_goR k _ _) (LeO.refl _)
theorem laws_markIntSS.go_of (k : Nat) : ∀ (l : List (List Int)) (a r : Int), laws_markIntSS.go k l a = some r → ∃ R, laws_markIntSS.goR k l a = some (R, r)
 | [], a, r, h => ⟨[], by rw [laws_markIntSS.goR, Option.some.inj h]⟩
 | x :: xs, a, r, h => by
  obtain ⟨t, ht, h2⟩ := Option.bind_eq_some_iff.mp h
  obtain ⟨R, hR⟩ := laws_markIntSS.go_of k xs t.1 r h2
  exact ⟨t.2 :: R, by rw [laws_markIntSS.goR, ht, Option.bind_some, hR]; rfl⟩
set_option maxHeartbeats 8000000 in
set_option maxRecDepth 1000000 in
theorem laws_markIntSS.callsR (k : Nat) (P0_ : Nat → Prop) (u9_ : Value) (l0 : List (List Int)) (a1 : Int) (rows : List (List Int)) (r : Int) (w0 w : World) (hB : Below w0.heap.size w0 w) (ho0 : Kd.S (Kd.slice 3 (Kd.int .i64)) 26 w w0.heap.size P0_ u9_ l0) (h : laws_markIntSS.fR k l0 a1 = some (rows, r)) :
  Calls Try.prog 22 #[u9_, .int .i64 a1] w fun e w' => e = .returned (.int .i64 r) ∧ Below w0.heap.size w0 w' ∧ Kept w w' (fun k_ => P0_ k_) ∧ Kd.S (Kd.slice 3 (Kd.int .i64)) 26 w' w0.heap.size (fun k_ => (P0_ k_ ∨ w.heap.size ≤ k_)) u9_ rows := by
 unfold laws_markIntSS.fR at h; (split at h); (case isFalse => cases h); rename_i hlen; have HLEN := Aside0.mk hlen; clear hlen; obtain ⟨A0, c0, e0⟩ := Kd.S_slice ho0; subst e0; have HS0 := Aside0.mk (Kd.S_mono ho0 (ok' := fun k_ => (P0_ k_ ∨ w.heap.size ≤ k_)) fun _ hk => .inl hk); have HK0 := Aside0.mk (Kept.refl w (fun k_ => P0_ k_)); have HW0 := Aside0.mk hB.size; have HB := Aside0.mk hB; have H0 := Aside0.mk h; clear hB ho0 h; go_enter Try.func22, Try.ntmps22; go_wp2; (go_loopw [1, 5] (fun v1 v5 wr => ∃ (i : Nat) (a : Int) (L R : List (List Int)), v1 = .int .i64 a ∧ v5 = .int .i64 (i : Int) ∧ Aside0 (laws_markIntSS.goR k (l0.drop i) a = some (R, r) ∧ L.take i ++ R = rows) ∧ Aside0 (i ≤ l0.length ∧ L.length = l0.length ∧ L.drop i = l0.drop i) ∧ Aside0 (Kd.S (Kd.slice 3 (Kd.int .i64)) 26 wr w0.heap.size (fun k_ => (P0_ k_ ∨ w.heap.size ≤ k_)) (.slice A0 l0.length c0) L) ∧ Aside0 (Kept w wr (fun k_ => P0_ k_)) ∧ Aside0 (Below w0.heap.size w0 wr)) (fun _ v _ => l0.length - (intOf v).toNat)); case atStart => exact ⟨0, a1, l0, rows, rfl, rfl, ⟨H0.out, rfl⟩, ⟨Nat.zero_le _, rfl, rfl⟩, HS0, HK0, HB⟩
 case round =>
  clear HB; obtain ⟨i, a, L, R, rfl, rfl, HG, HI, HS, HK, HB⟩ := hrel; by_cases hlt : i < l0.length; rotate_left
  ·have d0 : decide ((i : Int) < (l0.length : Int)) = false := decide_eq_false (by omega); have d1 : decide (i < l0.length) = false := decide_eq_false hlt; (have hi : i = l0.length := by have := HI.out.1; omega); subst hi; have hg := HG.out.1; rw [List.drop_length] at hg; obtain ⟨rfl, rfl⟩ := Prod.mk.inj (Option.some.inj hg); have hrow := HG.out.2; rw [List.append_nil, List.take_of_length_le (by rw [HI.out.2.1]; exact Nat.le_refl _)] at hrow; subst hrow; go_wp2; go_ret; exact ⟨rfl, HB.out, HK.out, HS.out⟩
  have d0 : decide ((i : Int) < (l0.length : Int)) = true := decide_eq_true (by omega); have d1 : decide (i < l0.length) = true := decide_eq_true hlt; (have p1 : (0 : Int) ≤ (i : Int) := by omega); (have p2 : (i : Int) < (L.length : Int) := by have := HI.out.2.1; omega); (have p3 : (i : Int) < (l0.length : Int) := by omega); (have hib : (i : Int) ≤ 1048576 := by have := HLEN.out; omega); have hS := HS.out; rw [← HI.out.2.1] at hS; obtain ⟨g, cap, eg, _⟩ := Kd.S_form hS (by omega); injection eg with eA _ eC; subst eA; subst eC; obtain ⟨oki, c, _, hM, hcell, _, hoki, hH⟩ := Kd.S_elem hS ([] : List Int) (i : Int) p1 p2; obtain ⟨vx, hvx, hRx⟩ := hM; subst hvx; replace hcell := hcell 0 vx rfl; obtain ⟨x, hx⟩ : ∃ x, L.getD ((i : Int)).toNat [] = x := ⟨_, rfl⟩; rw [hx] at hRx
  have hd : l0.drop i = x :: l0.drop (i + 1) := by
   have e2 := HI.out.2.1; have e3 := HI.out.2.2; clear HI HG HS hS; have h2 := congrArg (List.drop 1) e3; rw [List.drop_drop, List.drop_drop] at h2; rw [← e3, ← h2, ← hx, Int.toNat_natCast, List.getD_eq_getElem?_getD, List.getElem?_eq_getElem (by omega)]; exact List.drop_eq_getElem_cons (by omega)
  have hg := HG.out.1; rw [hd] at hg; obtain ⟨t, ht, hg2⟩ := Option.bind_eq_some_iff.mp hg; obtain ⟨t1, t2⟩ := t; obtain ⟨⟨R2, r2⟩, hg3, he2⟩ := Option.bind_eq_some_iff.mp hg2; obtain ⟨rfl, rfl⟩ := Prod.mk.inj (Option.some.inj he2); clear he2; have HT := Aside0.mk ht; have HG2 := Aside0.mk hg3; obtain ⟨Ai, ci, ei⟩ := Kd.R_slice hRx; subst ei; rw [Int.toNat_natCast, show i * (Kd.slice 3 (Kd.int .i64)).sz + 0 = i from Nat.mul_one i] at hcell; have HRx := Aside0.mk hRx; have HH := Aside0.mk hH; have HOK := Aside0.mk hoki; have HLT := Aside0.mk hlt; have HX := Aside0.mk hx; clear hS hRx hH hoki hd hg hg2 hg3 ht hlt hx; (go_wp2_with fail); refine (laws_markIntS.calls k oki _ x a t1 t2 w0 wr HB.out HRx.out HT.out).mono ?_; rintro e w1 ⟨rfl, hR1, hB1, hK1⟩; (have hH1 := Kd.H_step (Kd.H_widen HH.out) (w1 := w1) fun k_ _ hn hlt => hK1.2 k_ hlt fun h => hn (.inl h)); have hS1 := Kd.H_back hH1 (x' := t2) ⟨_, rfl, hR1⟩ (fun k_ hk => hk.imp_right fun h => ⟨.inr (Nat.le_trans HK.out.1 h), h⟩); have HS1 := Aside0.mk hS1; have HB1 := Aside0.mk hB1; have HK1 := Aside0.mk (HK.out.then_ hK1 fun k_ hk => (HOK.out k_ hk).1); clear hR1 hB1 hK1 hH1 hS1; go_wp2; go_roundw
  case rel =>
   refine ⟨i + 1, t1, L.set i t2, R2, rfl, by go_num, ⟨HG2.out, ?_⟩, ⟨by have := HLT.out; omega, by rw [List.length_set]; exact HI.out.2.1, ?_⟩, ⟨?_⟩, HK1, HB1⟩
   ·have e2 := HI.out.2.1; have e4 := HG.out.2; have e5 := HLT.out; rw [← e4, List.take_succ_eq_append_getElem (by rw [List.length_set]; omega), List.getElem_set_self, List.take_set_of_le (Nat.le_refl _), List.append_assoc]; rfl
   ·rw [List.drop_set_of_lt (by omega)]; have h2 := congrArg (List.drop 1) HI.out.2.2; rw [List.drop_drop, List.drop_drop] at h2; exact h2
   ·have h3 := HS1.out; rw [Int.toNat_natCast, HI.out.2.1] at h3; exact h3
  case measure =>
   have := HLT.out; (simp [intOf]); omega
theorem laws_markIntSS.calls (k : Nat) (P0_ : Nat → Prop) (u9_ : Value) (l0 : List (List Int)) (a1 : Int) (r : Int) (w0 w : World) (hB : Below w0.heap.size w0 w) (ho0 : Kd.S (Kd.slice 3 (Kd.int .i64)) 26 w w0.heap.size P0_ u9_ l0) (h : laws_markIntSS.f k l0 a1 = some r) :
  Calls Try.prog 22 #[u9_, .int .i64 a1] w fun e w' => e = .returned (.int .i64 r) ∧ Below w0.heap.size w0 w' ∧ Kept w w' (fun k_ => P0_ k_) := by
 unfold laws_markIntSS.f at h; (split at h); (case isFalse => cases h); rename_i hlen; obtain ⟨R, hR⟩ := laws_markIntSS.go_of k l0 a1 r h; exact (laws_markIntSS.callsR k P0_ u9_ l0 a1 R r w0 w hB ho0 (by unfold laws_markIntSS.fR; rw [if_pos hlen]; exact hR)).mono fun e w' hh => ⟨hh.1, hh.2.1, hh.2.2.1⟩
def laws_heldIntSS.l0 : Nat → List (List Int) → Int → Int → Option (Int)
 | 0, _, _, _ => none
 | k + 1, x0, x1, x5 => if x5 < (x0.length : Int) then (if 0 ≤ x5 then ((laws_heldIntS.f k (rd_L3 x0 x5) x1).bind fun t102 => (if t102 < 0 then (some (-1)) else (laws_heldIntSS.l0 k x0 t102 (wrap64 (x5 + 1))))) else (none)) else (some x1)
def laws_heldIntSS.f (k : Nat) (l0 : List (List Int)) (a1 : Int) : Option (Int) := laws_heldIntSS.l0 k l0 a1 0
theorem laws_heldIntSS.mono_l : ∀ k, (∀ y0 y1 y2, LeO (laws_heldIntSS.l0 k y0 y1 y2) (laws_heldIntSS.l0 (k + 1) y0 y1 y2))
 | 0 => fun _ _ _ r h => by simp [laws_heldIntSS.l0] at h
 | k + 1 => by
  have ih0 := laws_heldIntSS.mono_l k
  ·intro y0 y1 y2
   unfold laws_heldIntSS.l0
   exact zm12
theorem laws_heldIntSS.mono : ∀ a0 a1 k, LeO (laws_heldIntSS.f k a0 a1) (laws_heldIntSS.f (k + 1) a0 a1) := by
 intro a0 a1 k; have ih0 := laws_heldIntSS.mono_l k; unfold laws_heldIntSS.f; exact zm12
set_option maxHeartbeats 8000000 in
set_option maxRecDepth 100000 in
theorem laws_heldIntSS.calls (k : Nat) (A0 : Option Addr) (c0 : Nat) (l0 : List (List Int)) (a1 : Int) (r : Int) (w : World) (hr0 : Kd.C (Kd.slice 3 (Kd.int .i64)) w A0 l0.length l0) (hc0 : l0.length ≤ c0) (h : laws_heldIntSS.f k l0 a1 = some r) :
  Calls Try.prog 23 #[.slice A0 l0.length c0, .int .i64 a1] w fun e w' => e = .returned (.int .i64 r) ∧ Drawn0 w w' := by
 have HR0 := Aside0.mk hr0; have HC0 := Aside0.mk hc0; clear hr0 hc0; have H : (laws_heldIntSS.l0 k l0 a1 0) = some r := h; clear h; have H' := Aside0.mk H; clear H; go_enter Try.func23, Try.ntmps23; go_wp2; (go_loopg [1, 5] k (fun kq v1 v5 w' => ∃ (x1_1 : Int) (x5_1 : Int), v1 = .int .i64 x1_1 ∧ v5 = .int .i64 x5_1 ∧ Aside0 (laws_heldIntSS.l0 kq l0 x1_1 x5_1 = some r) ∧ Aside0 (kq ≤ k) ∧ Drawn0 w w')); case atStart => exact ⟨(a1), (0), zz5, zz5, H', ⟨Nat.le_refl _⟩, by repeat (first | exact Drawn0.refl _ | apply Drawn0.step)⟩
 case round =>
  clear H'; (try clear c2); (try clear p2); obtain ⟨x1_1, x5_1, rfl, rfl, HA, HK1, ⟨m1, rfl⟩⟩ := hrel
  cases gk with
  | zero => exact absurd HA.out (by simp [laws_heldIntSS.l0])
  | succ k1 =>
   have H := HA.out; clear HA; simp only [laws_heldIntSS.l0] at H; by_cases c3 : x5_1 < (l0.length : Int); rotate_left
   ·rw [if_neg c3] at H; have c3b0 := decide_eq_false c3; (try (have c3b8101_0 := c3b0; first | rw [hl101_0] at c3b8101_0 | rw [← hl101_0] at c3b8101_0)); clear c3; obtain rfl := Option.some.inj H; go_wp2; go_ret; exact ⟨zz5, by repeat (first | exact Drawn0.refl _ | apply Drawn0.step)⟩
   rw [if_pos c3] at H; have c3b0 := decide_eq_true c3; clear c3; by_cases c4 : 0 ≤ x5_1; rotate_left
   ·rw [if_neg c4] at H; exact absurd H (by simp)
   rw [if_pos c4] at H; have c4b0 := decide_eq_true c4; clear c4; replace H := Option.bind_eq_some_iff.mp H; obtain ⟨t102, A50, H⟩ := H; (try dsimp only at H); have A5 := Aside0.mk A50; clear A50; by_cases c6 : t102 < 0
   ·rw [if_pos c6] at H; have c6b0 := decide_eq_true c6; clear c6; obtain rfl := Option.some.inj H; have p101 : 0 ≤ (x5_1 : Int) := of_decide_eq_true zz3; have q101 : x5_1 < (l0.length : Int) := of_decide_eq_true zz3; obtain ⟨ad101, A101_0, c101_0, e101, hx101_0, hl101_0, hi101_0⟩ := at_L3 HR0.out x5_1 p101 q101; cases e101; have HR101_0 := Aside0.mk hi101_0; have HC101_0 := Aside0.mk hl101_0; clear hi101_0 hl101_0; replace p101 := eq_true p101; replace q101 := eq_true q101; (go_wp2_with (first | ((with_reducible refine gate_callee (f := 32) rfl ?_); refine goesL_ (some 17) rfl rfl Try.func32 (by kernel_rfl) rfl #[.slice A101_0 (rd_L3 l0 x5_1).length c101_0, .int .i64 x1_1] rfl zz4 ?_; (with_reducible refine (laws_heldIntS.calls k1 _ _ (rd_L3 l0 x5_1) x1_1 t102 _ ?side1 ?side2 A5.out).mono ?_); (case side1 => exact zz21); (case side2 => exact HC101_0.out); rintro e w' ⟨rfl, ⟨nd, rfl⟩⟩; refine ⟨_, rfl, ?_⟩))); go_ret; exact ⟨zz5, by repeat (first | exact Drawn0.refl _ | apply Drawn0.step)⟩
   rw [if_neg c6] at H; have c6b0 := decide_eq_false c6; clear c6; have H' := Aside0.mk H; clear H; have p101 : 0 ≤ (x5_1 : Int) := of_decide_eq_true zz3; have q101 : x5_1 < (l0.length : Int) := of_decide_eq_true zz3; obtain ⟨ad101, A101_0, c101_0, e101, hx101_0, hl101_0, hi101_0⟩ := at_L3 HR0.out x5_1 p101 q101; cases e101; have HR101_0 := Aside0.mk hi101_0; have HC101_0 := Aside0.mk hl101_0; clear hi101_0 hl101_0; replace p101 := eq_true p101; replace q101 := eq_true q101; (go_wp2_with (first | ((with_reducible refine gate_callee (f := 32) rfl ?_); refine goesL_ (some 17) rfl rfl Try.func32 (by kernel_rfl) rfl #[.slice A101_0 (rd_L3 l0 x5_1).length c101_0, .int .i64 x1_1] rfl zz4 ?_; (with_reducible refine (laws_heldIntS.calls k1 _ _ (rd_L3 l0 x5_1) x1_1 t102 _ ?side1 ?side2 A5.out).mono ?_); (case side1 => exact zz21); (case side2 => exact HC101_0.out); rintro e w' ⟨rfl, ⟨nd, rfl⟩⟩; refine ⟨_, rfl, ?_⟩))); go_roundg k1; (case measure => have := HK1.out; omega); case rel => exact ⟨(t102), (wrap64 (x5_1 + 1)), zz5, zz5, H', ⟨zz36⟩, by repeat (first | exact Drawn0.refl _ | apply Drawn0.step)⟩
def laws_FnExactParkingsOf.T10 : Bool × List (List Nat × List Nat) := (true, [([], []), ([], []), ([1], [1]), ([0, 2, 2], [0, 2]), ([3], [3])])
def laws_FnExactParkingsOf.B10 : List Nat := [0, 0, 2, 7, 15]
theorem laws_FnExactParkingsOf.tab10 : rtab .any (opsOf Try.f4 10) = laws_FnExactParkingsOf.T10 := by kernel_rfl
theorem laws_FnExactParkingsOf.bits10 : waitsOk laws_FnExactParkingsOf.T10.2 laws_FnExactParkingsOf.B10 = true := by kernel_rfl
/-- Behind the marks. -/
def laws_FnExactParkingsOf.tail2 (k : Nat) (a0 : Int) (l0 : List S101) (a1 : Int) (W : List (List Int) × Bool) (m : List (List Int) × Int) : Option Bool :=
 (laws_heldIntSS.f k m.1 1).bind fun q => if q < 0 then none else if q = m.2 then (laws_toGraph.f k a0 l0).bind fun a3 => (impl_ParkingsOf.f k a3.1 a3.2 a1).bind fun H => (laws_eqIntSS.f k H.1 W.1).bind fun e4 => if e4 = true then (if H.2 = W.2 then (laws_heldIntSS.f k m.1 1).bind fun q2 => (if q2 < 0 then none else if q2 = m.2 then some true else none) else none) else none else none
/-- Behind the first five calls. -/
def laws_FnExactParkingsOf.tail (k : Nat) (a0 : Int) (l0 : List S101) (a1 : Int) (W : List (List Int) × Bool) (x0 : Int × List S57) (G : List (List Int) × Bool) : Option Bool :=
 (laws_eqIntSS.f k G.1 W.1).bind fun e1 => if e1 = true then (if G.2 = W.2 then (laws_toGraph.f k a0 l0).bind fun a2 => (laws_eqGraph.f k x0.1 x0.2 a2.1 a2.2).bind fun e2 => (if e2 = true then (laws_markGraph.f k x0.1 x0.2 1).bind fun km => (if km.1 < 0 then none else (laws_eqIntSS.f k G.1 W.1).bind fun e3 => (if e3 = true then (laws_markIntSS.fR k G.1 1).bind fun m => laws_FnExactParkingsOf.tail2 k a0 l0 a1 W m else none)) else none) else none) else none
def laws_FnExactParkingsOf.f (k : Nat) (a0 : Int) (l0 : List S101) (a1 : Int) : Option Bool :=
 (laws_szGraph.f a0 l0 1048576).bind fun t => if t < 0 then some true else (laws_toGraph.f k a0 l0).bind fun a => (spec_ParkingsOf.f k a.1 a.2 a1).bind fun W => (laws_toGraph.f k a0 l0).bind fun x0 => (impl_ParkingsOf.f k x0.1 x0.2 a1).bind fun G => laws_FnExactParkingsOf.tail k a0 l0 a1 W x0 G
theorem laws_FnExactParkingsOf.mono : ∀ a0 a1 a2 k, LeO (laws_FnExactParkingsOf.f k a0 a1 a2) (laws_FnExactParkingsOf.f (k + 1) a0 a1 a2) := by
 intro a0 a1 a2 k; unfold laws_FnExactParkingsOf.f laws_FnExactParkingsOf.tail laws_FnExactParkingsOf.tail2; repeat (first | exact LeO.refl _ | refine LeO.bind (LeO.refl (laws_szGraph.f _ _ _)) fun _ => ?_ | refine LeO.bind (laws_toGraph.mono _ _ k) fun _ => ?_ | refine LeO.bind (spec_ParkingsOf.mono _ _ _ k) fun _ => ?_ | refine LeO.bind (impl_ParkingsOf.mono _ _ _ k) fun _ => ?_ | refine LeO.bind (laws_eqIntSS.mono _ _ k) fun _ => ?_ | refine LeO.bind (laws_eqGraph.mono _ _ _ _ k) fun _ => ?_ | refine LeO.bind (laws_markGraph.mono _ _ _ k) fun _ => ?_ | refine LeO.bind (laws_markIntSS.monoR _ _ k) fun _ => ?_ | refine LeO.bind (laws_heldIntSS.mono _ _ k) fun _ => ?_ | refine LeO.ite ?_ ?_)
set_option maxHeartbeats 8000000 in
set_option maxRecDepth 1000000 in
theorem laws_FnExactParkingsOf.calls (k : Nat) (a0_0 : Int) (A0_1 : Option Addr) (c0_1 : Nat) (l0_1 : List S101) (a1 : Int) (r : Bool) (w : World) (hr0_1 : Kd.C k101 w A0_1 l0_1.length l0_1) (hc0_1 : l0_1.length ≤ c0_1) (h : laws_FnExactParkingsOf.f k a0_0 l0_1 a1 = some r) :
  Calls Try.prog 4 #[.agg #[.int .i64 a0_0, .slice A0_1 l0_1.length c0_1], .int .i64 a1] w fun e w' => e = .returned (.bool r) ∧ Below w.heap.size w w' := by
 have hu1 := Try.underlying41; have hu2 := Try.underlying25; have HR := Aside0.mk hr0_1; have HC := Aside0.mk hc0_1; clear hr0_1 hc0_1; unfold laws_FnExactParkingsOf.f at h; replace h := Option.bind_eq_some_iff.mp h; obtain ⟨t, ht, h⟩ := h; have HT := Aside0.mk ht; clear ht; by_cases c1 : t < 0
 ·rw [if_pos c1] at h; obtain rfl := Option.some.inj h; have d1 : decide (t < 0) = true := decide_eq_true c1; go_enter Try.func4, Try.ntmps4; (go_wp2_with (first | ((with_reducible refine gate_dst (N := 2) rfl ?_); refine box_event ?hg (N := 2) ?hd (cs := #[.int .i64 a0_0, .slice A0_1 l0_1.length c0_1]) (t := 41) ?hr ?_; (case hd => rfl); (case hg => rfl); (case hr => exact zz9); intro ga hg w1 hbox hb; have BA1 := Aside0.mk hbox; have HGA := Aside0.mk hg; have HB1 := Aside0.mk hb; have hz0 : w1.cell? ⟨ga, 0, none⟩ = some (.int .i64 a0_0) := (blk_cell BA1.out 0).trans rfl; have hz1 : w1.cell? ⟨ga, 1, none⟩ = some (.slice A0_1 l0_1.length c0_1) := (blk_cell BA1.out 1).trans rfl; clear hg hbox hb))); refine (laws_szGraph.calls a0_0 _ _ l0_1 1048576 t _ (Kd.C_below HR.out HB1.out) HC.out HT.out).mono ?_; rintro e w2 ⟨rfl, hb⟩; have BA2 := Aside0.mk (blk_below BA1.out hb); have HB2 := Aside0.mk (below_step HB1.out hb); clear hb hz0 hz1 BA1; go_wp2; go_ret; exact ⟨rfl, HB2.out⟩
 rw [if_neg c1] at h; have d1 : decide (t < 0) = false := decide_eq_false c1; clear c1; replace h := Option.bind_eq_some_iff.mp h; obtain ⟨⟨an, ae⟩, h_a, h⟩ := h; replace h := Option.bind_eq_some_iff.mp h; obtain ⟨⟨W, wb⟩, h_W, h⟩ := h; replace h := Option.bind_eq_some_iff.mp h; obtain ⟨⟨xn, xe⟩, h_x, h⟩ := h; replace h := Option.bind_eq_some_iff.mp h; obtain ⟨⟨G, gb⟩, h_G, h⟩ := h; unfold laws_FnExactParkingsOf.tail at h; simp only at h; replace h := Option.bind_eq_some_iff.mp h; obtain ⟨e1, h_e1, h⟩ := h; (split at h); (case isFalse => cases h); rename_i t1; subst t1; (split at h); (case isFalse => cases h); rename_i g1; replace h := Option.bind_eq_some_iff.mp h; obtain ⟨⟨bn, be⟩, h_b, h⟩ := h; replace h := Option.bind_eq_some_iff.mp h; obtain ⟨e2, h_e2, h⟩ := h; (split at h); (case isFalse => cases h); rename_i t1; subst t1; replace h := Option.bind_eq_some_iff.mp h; obtain ⟨⟨km, ke⟩, h_k, h⟩ := h; (split at h); (case isTrue => cases h); rename_i n1; replace h := Option.bind_eq_some_iff.mp h; obtain ⟨e3, h_e3, h⟩ := h; (split at h); (case isFalse => cases h); rename_i t1; subst t1; replace h := Option.bind_eq_some_iff.mp h; obtain ⟨⟨M, m⟩, h_m, h⟩ := h; unfold laws_FnExactParkingsOf.tail2 at h; simp only at h; replace h := Option.bind_eq_some_iff.mp h; obtain ⟨q, h_q, h⟩ := h; (split at h); (case isTrue => cases h); rename_i n2; (split at h); (case isFalse => cases h); rename_i t2; replace h := Option.bind_eq_some_iff.mp h; obtain ⟨⟨cn, ce⟩, h_c, h⟩ := h; replace h := Option.bind_eq_some_iff.mp h; obtain ⟨⟨H, hb2⟩, h_H, h⟩ := h; replace h := Option.bind_eq_some_iff.mp h; obtain ⟨e4, h_e4, h⟩ := h; (split at h); (case isFalse => cases h); rename_i t1; subst t1; (split at h); (case isFalse => cases h); rename_i g2; replace h := Option.bind_eq_some_iff.mp h; obtain ⟨q2, h_q2, h⟩ := h; (split at h); (case isTrue => cases h); rename_i n3; (split at h); (case isFalse => cases h); rename_i t3; obtain rfl := Option.some.inj h; clear h; simp only at h_a h_W h_x h_G h_e1 h_b h_e2 h_k h_e3 h_m h_q h_c h_H h_e4 h_q2 g1 g2 n1 t2 t3; subst g1; subst g2; have Ha_ := Aside0.mk h_a; have HW_ := Aside0.mk h_W; have Hx_ := Aside0.mk h_x; have HG_ := Aside0.mk h_G; have He1_ := Aside0.mk h_e1; have Hb_ := Aside0.mk h_b; have He2_ := Aside0.mk h_e2; have Hk_ := Aside0.mk h_k; have He3_ := Aside0.mk h_e3; have Hm_ := Aside0.mk h_m; have Hq_ := Aside0.mk h_q; have Hc_ := Aside0.mk h_c; have HH_ := Aside0.mk h_H; have He4_ := Aside0.mk h_e4; have Hq2_ := Aside0.mk h_q2; clear h_a h_W h_x h_G h_e1 h_b h_e2 h_k h_e3 h_m h_q h_c h_H h_e4 h_q2; have d2 : decide (km < 0) = false := decide_eq_false n1; have d3 : decide (q < 0) = false := decide_eq_false n2; have d4 : (q != m) = false := bne_eq_false_iff_eq.mpr t2; have d5 : decide (q2 < 0) = false := decide_eq_false n3; have d6 : (q2 != m) = false := bne_eq_false_iff_eq.mpr t3; clear n1 n2 n3 t2 t3; go_enter Try.func4, Try.ntmps4; (go_wp2_with (first | ((with_reducible refine gate_dst (N := 2) rfl ?_); refine box_event ?hg (N := 2) ?hd (cs := #[.int .i64 a0_0, .slice A0_1 l0_1.length c0_1]) (t := 41) ?hr ?_; (case hd => rfl); (case hg => rfl); (case hr => exact zz9); intro ga hg w1 hbox hb; have BA1 := Aside0.mk hbox; have HGA := Aside0.mk hg; have HB1 := Aside0.mk hb; have hz0 : w1.cell? ⟨ga, 0, none⟩ = some (.int .i64 a0_0) := (blk_cell BA1.out 0).trans rfl; have hz1 : w1.cell? ⟨ga, 1, none⟩ = some (.slice A0_1 l0_1.length c0_1) := (blk_cell BA1.out 1).trans rfl; clear hg hbox hb))); refine (laws_szGraph.calls a0_0 _ _ l0_1 1048576 t _ (Kd.C_below HR.out HB1.out) HC.out HT.out).mono ?_; rintro e w2 ⟨rfl, hb⟩; have BA2 := Aside0.mk (blk_below BA1.out hb); have HB2 := Aside0.mk (below_step HB1.out hb); clear hb hz0 hz1 BA1; have hz0 : w2.cell? ⟨ga, 0, none⟩ = some (.int .i64 a0_0) := (blk_cell BA2.out 0).trans rfl; have hz1 : w2.cell? ⟨ga, 1, none⟩ = some (.slice A0_1 l0_1.length c0_1) := (blk_cell BA2.out 1).trans rfl; (go_wp2_with fail); refine (laws_toGraph.calls k a0_0 _ _ l0_1 an ae _ (Kd.C_below HR.out HB2.out) HC.out Ha_.out).mono ?_; rintro e w3 ⟨v3, rfl, hR, hb⟩; obtain ⟨Aa, ca, ea⟩ := Kd.R_slice hR; subst ea; have HA3 := Aside0.mk (Kd.R_reads' hR); have BA3 := Aside0.mk (blk_below BA2.out hb); have HB3 := Aside0.mk (below_step HB2.out hb); clear hR hb hz0 hz1 BA2; (go_wp2_with fail); refine (spec_ParkingsOf.calls k an _ _ ae a1 W _ _ HA3.out.2.2 HA3.out.2.1 HW_.out).mono ?_; rintro e w4 ⟨v4, rfl, hN, hb⟩; obtain ⟨Aw, cw, ew⟩ := Kd.S_slice hN; subst ew; have HW4 := Aside0.mk (Kd.N_mono (Kd.N_bound (Kd.S_N hN)) (ok' := fun k_ => k_ < w4.heap.size) fun k_ hk => hk.2); have HWB := Aside0.mk hb.size; have BA4 := Aside0.mk (blk_below BA3.out hb); have HB4 := Aside0.mk (below_step HB3.out hb); have HGA4 := Aside0.mk (show ga < w4.heap.size from blk_lt BA4.out); clear hN hb BA3 HA3; have hz0 : w4.cell? ⟨ga, 0, none⟩ = some (.int .i64 a0_0) := (blk_cell BA4.out 0).trans rfl; have hz1 : w4.cell? ⟨ga, 1, none⟩ = some (.slice A0_1 l0_1.length c0_1) := (blk_cell BA4.out 1).trans rfl; (go_wp2_with fail); refine (laws_toGraph.calls k a0_0 _ _ l0_1 xn xe _ (Kd.C_below HR.out HB4.out) HC.out Hx_.out).mono ?_; rintro e w5 ⟨v5, rfl, hR, hb⟩; obtain ⟨Ax, cx, ex⟩ := Kd.R_slice hR; subst ex; have HX5 := Aside0.mk (Kd.R_mono (Kd.R_bound hR) (ok' := fun k_ => w4.heap.size ≤ k_ ∧ k_ < w5.heap.size) fun k_ hk => ⟨hk.2.1, hk.2.2.1⟩); have HW5 := Aside0.mk (Kd.N_below HW4.out hb); have HZ5 := Aside0.mk hb.size; have BA5 := Aside0.mk (blk_below BA4.out hb); have HB5 := Aside0.mk (below_step HB4.out hb); clear hR hb hz0 hz1 BA4 HW4; (go_wp2_with (first | ((with_reducible refine gate_dst (N := 8) rfl ?_); refine box_event ?hg (N := 8) ?hd (cs := #[.int .i64 0, .slice none 0 0]) (t := 25) ?hr ?_; (case hd => rfl); (case hg => rfl); (case hr => exact zz9); intro gx hg w6 hbox hb; have HGX := Aside0.mk hg; have BX6 := Aside0.mk hbox; have BA6 := Aside0.mk (blk_below BA5.out hb); have HB6 := Aside0.mk (below_step HB5.out hb); have HX6 := Aside0.mk (Kd.R_below HX5.out hb); have HW6 := Aside0.mk (Kd.N_below HW5.out hb); have hy0 : w6.cell? ⟨gx, 0, none⟩ = some (.int .i64 0) := (blk_cell BX6.out 0).trans rfl; have hy1 : w6.cell? ⟨gx, 1, none⟩ = some (.slice none 0 0) := (blk_cell BX6.out 1).trans rfl; have hf0 := blk_frozen BX6.out 0; have hf1 := blk_frozen BX6.out 1; clear hg hbox hb BA5 HX5 HW5))); (have hbb : ∀ b : Bool, (b != b) = false := by intro b; cases b <;> rfl); have HGAX := Aside0.mk (show ga < w4.heap.size ∧ w4.heap.size ≤ w5.heap.size ∧ gx = w5.heap.size ∧ w.heap.size ≤ gx from ⟨by exact HGA4.out, HZ5.out, HGX.out, by have := HGX.out; have := HB5.out.size; omega⟩); generalize hw : ((w6.setCell ⟨gx, 0, none⟩ (.int .i64 xn)).setCell ⟨gx, 1, none⟩ (.slice Ax xe.length cx)) = w7; have BX7 := Aside0.mk (show w7.heap[gx]? = some (.cells #[.int .i64 xn, .slice Ax xe.length cx] 25 (0, 0)) from by rw [← hw]; exact blk_set (blk_set BX6.out 0 _) 1 _); have BA7 := Aside0.mk (show w7.heap[ga]? = some (.cells #[.int .i64 a0_0, .slice A0_1 l0_1.length c0_1] 41 (0, 0)) from by rw [← hw]; exact blk_far (blk_far BA6.out (by have := HGAX.out; show ga ≠ gx; omega) _) (by have := HGAX.out; show ga ≠ gx; omega) _); have HB7 := Aside0.mk (show Below w.heap.size w w7 from by rw [← hw]; exact below_set (below_set HB6.out HGAX.out.2.2.2) HGAX.out.2.2.2); have HX7 := Aside0.mk (show Kd.R k57 57 w7 w4.heap.size (fun k_ => w4.heap.size ≤ k_ ∧ k_ < w5.heap.size) (.slice Ax xe.length cx) xe from by rw [← hw]; exact Kd.R_far (p := ⟨gx, 1, none⟩) (Kd.R_far (p := ⟨gx, 0, none⟩) HX6.out (fun k_ hk => by have h2 := hk.2; have := HGAX.out; show k_ ≠ gx; omega) _) (fun k_ hk => by have h2 := hk.2; have := HGAX.out; show k_ ≠ gx; omega) _); have HW7 := Aside0.mk (show Kd.N (Kd.slice 3 (Kd.int .i64)) 26 w7 w3.heap.size (fun k_ => k_ < w4.heap.size) (.slice Aw W.length cw) W from by rw [← hw]; exact Kd.N_far (p := ⟨gx, 1, none⟩) (Kd.N_far (p := ⟨gx, 0, none⟩) HW6.out (fun k_ hk => by have h2 : k_ < w4.heap.size := hk; have := HGAX.out; show k_ ≠ gx; omega) _) (fun k_ hk => by have h2 : k_ < w4.heap.size := hk; have := HGAX.out; show k_ ≠ gx; omega) _); have HZ7 := Aside0.mk (show w5.heap.size < w7.heap.size from by have := blk_lt BX7.out; have := HGAX.out; omega); clear hw BX6 BA6 HB6 HX6 HW6 hy0 hy1 hf0 hf1; refine (impl_ParkingsOf.calls k xn _ _ xe a1 G _ _ (Kd.R_reads' HX7.out).2.2 (Kd.R_reads' HX7.out).2.1 HG_.out).mono ?_; rintro e w8 ⟨v8, rfl, hS, hb⟩; obtain ⟨Ag, cg, eg⟩ := Kd.S_slice hS; subst eg; have HG8 := Aside0.mk (Kd.S_mono (Kd.S_bound hS) (ok' := fun k_ => w7.heap.size ≤ k_ ∧ k_ < w8.heap.size) fun k_ hk => ⟨hk.2.1, hk.2.2.1⟩); have BX8 := Aside0.mk (blk_below BX7.out hb); have BA8 := Aside0.mk (blk_below BA7.out hb); have HX8 := Aside0.mk (Kd.R_below HX7.out hb); have HW8 := Aside0.mk (Kd.N_below HW7.out hb); have HB8 := Aside0.mk (below_step HB7.out hb); clear hS hb BX7 BA7 HX7 HW7; (go_wp2_with fail); refine (laws_eqIntSS.calls k _ _ G _ _ W true _ (Kd.S_reads' HG8.out).2.2 (Kd.S_reads' HG8.out).2.1 (Kd.N_reads' HW8.out).2.2 (Kd.N_reads' HW8.out).2.1 He1_.out).mono ?_; rintro e w9 ⟨rfl, hd⟩; have hb := Drawn0.below hd; have BX9 := Aside0.mk (blk_below BX8.out hb); have BA9 := Aside0.mk (blk_below BA8.out hb); have HX9 := Aside0.mk (Kd.R_below HX8.out hb); have HW9 := Aside0.mk (Kd.N_below HW8.out hb); have HG9 := Aside0.mk (Kd.S_below HG8.out hb); have HB9 := Aside0.mk (below_step HB8.out hb); clear hd hb BX8 BA8 HX8 HW8 HG8; (try go_wp2); refine start_ (n := 5) (S := fun w' => w'.cell? ⟨gx, 0, none⟩ = some (.int .i64 xn) ∧ w'.cell? ⟨gx, 1, none⟩ = some (.slice Ax xe.length cx) ∧ w'.cell? ⟨ga, 0, none⟩ = some (.int .i64 a0_0) ∧ w'.cell? ⟨ga, 1, none⟩ = some (.slice A0_1 l0_1.length c0_1)) (ds := []) (zM 5 0) (by kernel_rfl) rfl rfl ⟨(blk_cell BX9.out 0).trans rfl, (blk_cell BX9.out 1).trans rfl, (blk_cell BA9.out 0).trans rfl, (blk_cell BA9.out 1).trans rfl⟩ (fun hHeld => ?_); refine with_tabW laws_FnExactParkingsOf.tab10 laws_FnExactParkingsOf.bits10 (fun HT_ HW_ => ?_); have hb : Below w9.heap.size w9 w9.drew := below_drew (Below.refl _ _); have BX10 := Aside0.mk (blk_below BX9.out hb); have BA10 := Aside0.mk (blk_below BA9.out hb); have HX10 := Aside0.mk (Kd.R_below HX9.out hb); have HW10 := Aside0.mk (Kd.N_below HW9.out hb); have HG10 := Aside0.mk (Kd.S_below HG9.out hb); have HB10 := Aside0.mk (below_step HB9.out hb); clear hb BX9 BA9 HX9 HW9 HG9; generalize w9.drew = w10 at BX10 BA10 HX10 HW10 HG10 HB10 hHeld ⊢; refine take_ (i := 0) (N := some 45) (v := ?_) (a' := ?_) (zM 5 1) rfl rfl (take_ofW HT_.out HW_.out (by kernel_rfl)) (fun _ _ _ h => h) (Or.inl ⟨by rfl, ?_⟩) hHeld ?_ ?_; rotate_left
 ·rintro w' ⟨s0, s1, s2, s3⟩; exact zzT
 rotate_left
 ·exact zzS
 refine take_ (i := 1) (N := some 46) (v := ?_) (a' := ?_) (zM 5 3) rfl rfl (take_ofW HT_.out HW_.out (by kernel_rfl)) (fun _ _ _ h => h) (Or.inl ⟨by rfl, ?_⟩) hHeld ?_ ?_; rotate_left
 ·rintro w' ⟨s0, s1, s2, s3⟩; exact zzT
 rotate_left
 ·exact zzS
 refine one_ (i := 2) (N := some 47) (zM 5 7) rfl rfl (one_of HT_.out (by kernel_rfl)) (by decide) (fun K hK => ?_); refine goes_ Try.func18 (by kernel_rfl) rfl #[.agg #[.int .i64 a0_0, .slice A0_1 l0_1.length c0_1]] (by rfl) rfl rfl zz28 ?_; refine (laws_toGraph.calls k a0_0 _ _ l0_1 bn be _ (Kd.C_below HR.out HB10.out) HC.out Hb_.out).mono ?_; rintro e w11 ⟨v11, rfl, hR, hb⟩; obtain ⟨Ab, cb, eb⟩ := Kd.R_slice hR; subst eb; have HBb := Aside0.mk (Kd.R_reads' hR); have BX11 := Aside0.mk (blk_below BX10.out hb); have BA11 := Aside0.mk (blk_below BA10.out hb); have HX11 := Aside0.mk (Kd.R_below HX10.out hb); have HW11 := Aside0.mk (Kd.N_below HW10.out hb); have HG11 := Aside0.mk (Kd.S_below HG10.out hb); have HB11 := Aside0.mk (below_step HB10.out hb); clear hR hb BX10 BA10 HX10 HW10 HG10; refine ⟨_, rfl, ?_⟩; refine hK.out _ _ ⟨(blk_cell BX11.out 0).trans rfl, (blk_cell BX11.out 1).trans rfl, (blk_cell BA11.out 0).trans rfl, (blk_cell BA11.out 1).trans rfl⟩ (fun hHeld => ?_); clear hK K; refine norm_ (a' := ?_) ?_ ?_; rotate_left
 ·show Act.put _ (some 47) _ = _; exact zzS
 refine one_ (i := 3) (N := some 48) (zM 5 15) rfl rfl (one_of HT_.out (by kernel_rfl)) (by decide) (fun K hK => ?_); refine goes_ Try.func20 (by kernel_rfl) rfl #[.agg #[.int .i64 xn, .slice Ax xe.length cx], .agg #[.int .i64 bn, .slice Ab be.length cb]] (by rfl) rfl rfl zz28 ?_; refine (laws_eqGraph.calls k xn _ _ xe bn _ _ be true _ (Kd.R_reads' HX11.out).2.2 (Kd.R_reads' HX11.out).2.1 HBb.out.2.2 HBb.out.2.1 He2_.out).mono ?_; rintro e w12 ⟨rfl, hb⟩; have BX12 := Aside0.mk (blk_below BX11.out hb); have BA12 := Aside0.mk (blk_below BA11.out hb); have HX12 := Aside0.mk (Kd.R_below HX11.out hb); have HW12 := Aside0.mk (Kd.N_below HW11.out hb); have HG12 := Aside0.mk (Kd.S_below HG11.out hb); have HB12 := Aside0.mk (below_step HB11.out hb); clear hb BX11 BA11 HX11 HW11 HG11 HBb; refine ⟨_, rfl, ?_⟩; refine hK.out _ _ ⟨(blk_cell BX12.out 0).trans rfl, (blk_cell BX12.out 1).trans rfl, (blk_cell BA12.out 0).trans rfl, (blk_cell BA12.out 1).trans rfl⟩ (fun hHeld => ?_); clear hK K; refine norm_ (a' := ?_) ?_ ?_; rotate_left
 ·show Act.put _ (some 48) _ = _; exact zzS
 refine zQ 4 49 (zM 5 31) ?_
 refine done_ (done_of HT_.out (by kernel_rfl)) ?_; have hx0 : w12.cell? ⟨gx, 0, none⟩ = some (.int .i64 xn) := (blk_cell BX12.out 0).trans rfl; have hx1 : w12.cell? ⟨gx, 1, none⟩ = some (.slice Ax xe.length cx) := (blk_cell BX12.out 1).trans rfl; (go_wp2_with fail); refine (laws_markGraph.calls k xn (fun k_ => w4.heap.size ≤ k_ ∧ k_ < w5.heap.size) _ xe 1 km ke w _ HB12.out (Kd.R_lower HX12.out HB4.out.size) Hk_.out).mono ?_; rintro e w13 ⟨rfl, _, hb, hk⟩; have HW13 := Aside0.mk (Kd.N_step HW12.out fun k_ ho hlt => hk.2 k_ hlt fun h => by have h2 : k_ < w4.heap.size := ho; have := h.1; omega); have HG13 := Aside0.mk (Kd.S_step HG12.out fun k_ ho hlt => hk.2 k_ hlt fun h => by have := ho.1; have := h.2; have := HZ7.out; omega); have BA13 := Aside0.mk (blk_kept BA12.out hk fun h => by have := h.1; have := HGAX.out.1; omega); have HB13 := Aside0.mk hb; clear hb hk hx0 hx1 BX12 BA12 HX12 HW12 HG12; (go_wp2_with fail); refine (laws_eqIntSS.calls k _ _ G _ _ W true _ (Kd.S_reads' HG13.out).2.2 (Kd.S_reads' HG13.out).2.1 (Kd.N_reads' HW13.out).2.2 (Kd.N_reads' HW13.out).2.1 He3_.out).mono ?_; rintro e w14 ⟨rfl, hd⟩; have hb := Drawn0.below hd; have BA14 := Aside0.mk (blk_below BA13.out hb); have HW14 := Aside0.mk (Kd.N_below HW13.out hb); have HG14 := Aside0.mk (Kd.S_below HG13.out hb); have HB14 := Aside0.mk (below_step HB13.out hb); clear hd hb BA13 HW13 HG13; (go_wp2_with fail); refine (laws_markIntSS.callsR k (fun k_ => w7.heap.size ≤ k_ ∧ k_ < w8.heap.size) _ G 1 M m w _ HB14.out (Kd.S_lower HG14.out HB7.out.size) Hm_.out).mono ?_; rintro e w15 ⟨rfl, hb, hk, hS⟩; obtain ⟨hl, _, _⟩ := Kd.S_reads' hS; rw [hl] at hS; have HM15 := Aside0.mk hS; have HW15 := Aside0.mk (Kd.N_step HW14.out fun k_ ho hlt => hk.2 k_ hlt fun h => by have h2 : k_ < w4.heap.size := ho; have := h.1; have := HZ7.out; have := HGAX.out; omega); have BA15 := Aside0.mk (blk_kept BA14.out hk fun h => by have := h.1; have := HGAX.out; have := HZ7.out; omega); have HB15 := Aside0.mk hb; clear hb hk hS BA14 HW14 HG14; rw [hl]; clear hl; (go_wp2_with fail); refine (laws_heldIntSS.calls k _ _ M 1 q _ (Kd.S_reads' HM15.out).2.2 (Kd.S_reads' HM15.out).2.1 Hq_.out).mono ?_; rintro e w16 ⟨rfl, hd⟩; have hb := Drawn0.below hd; have BA16 := Aside0.mk (blk_below BA15.out hb); have HW16 := Aside0.mk (Kd.N_below HW15.out hb); have HM16 := Aside0.mk (Kd.S_below HM15.out hb); have HB16 := Aside0.mk (below_step HB15.out hb); clear hd hb BA15 HW15 HM15; have hz0 : w16.cell? ⟨ga, 0, none⟩ = some (.int .i64 a0_0) := (blk_cell BA16.out 0).trans rfl; have hz1 : w16.cell? ⟨ga, 1, none⟩ = some (.slice A0_1 l0_1.length c0_1) := (blk_cell BA16.out 1).trans rfl; (go_wp2_with fail); refine (laws_toGraph.calls k a0_0 _ _ l0_1 cn ce _ (Kd.C_below HR.out HB16.out) HC.out Hc_.out).mono ?_; rintro e w17 ⟨v17, rfl, hR, hb⟩; obtain ⟨Ac, cc, ec⟩ := Kd.R_slice hR; subst ec; have HCc := Aside0.mk (Kd.R_reads' hR); have HW17 := Aside0.mk (Kd.N_below HW16.out hb); have HM17 := Aside0.mk (Kd.S_below HM16.out hb); have HB17 := Aside0.mk (below_step HB16.out hb); clear hR hb hz0 hz1 BA16 HW16 HM16; (go_wp2_with fail); refine (impl_ParkingsOf.calls k cn _ _ ce a1 H _ _ HCc.out.2.2 HCc.out.2.1 HH_.out).mono ?_; rintro e w18 ⟨v18, rfl, hS, hb⟩; obtain ⟨Ah, ch, eh⟩ := Kd.S_slice hS; subst eh; have HG18 := Aside0.mk hS; have HW18 := Aside0.mk (Kd.N_below HW17.out hb); have HM18 := Aside0.mk (Kd.S_below HM17.out hb); have HB18 := Aside0.mk (below_step HB17.out hb); clear hS hb HCc HW17 HM17; (go_wp2_with fail); refine (laws_eqIntSS.calls k _ _ H _ _ W true _ (Kd.S_reads' HG18.out).2.2 (Kd.S_reads' HG18.out).2.1 (Kd.N_reads' HW18.out).2.2 (Kd.N_reads' HW18.out).2.1 He4_.out).mono ?_; rintro e w19 ⟨rfl, hd⟩; have hb := Drawn0.below hd; have HM19 := Aside0.mk (Kd.S_below HM18.out hb); have HB19 := Aside0.mk (below_step HB18.out hb); clear hd hb HW18 HM18 HG18; (go_wp2_with fail); refine (laws_heldIntSS.calls k _ _ M 1 q2 _ (Kd.S_reads' HM19.out).2.2 (Kd.S_reads' HM19.out).2.1 Hq2_.out).mono ?_; rintro e w20 ⟨rfl, hd⟩; have hb := Drawn0.below hd; have HM20 := Aside0.mk (Kd.S_below HM19.out hb); have HB20 := Aside0.mk (below_step HB19.out hb); clear hd hb HM19; go_wp2; go_ret; exact ⟨rfl, HB20.out⟩
end Go.Proofs.Ytnbljcgdgblgoaa.P
end

section
namespace Go.Proofs.Ytnbljcgdgblgoaa.Cf
set_option linter.unusedVariables false
set_option linter.unusedSimpArgs false
open Go.RowKit Go.Proofs.YtnbljcgdgblgoaaW.PrintWords Go.Proofs.Ytnbljcgdgblgoaa.P
theorem forall_drop' {α : Type} {l : List α} {P : α → Prop} {i : Nat} (h : i < l.length) : (∀ e ∈ l.drop i, P e) ↔ (P l[i] ∧ ∀ e ∈ l.drop (i + 1), P e) := by
  rw [List.drop_eq_getElem_cons h]
  simp only [List.mem_cons, forall_eq_or_imp]
theorem implGraph (n : Int) (es : List E) : impl_GraphOk.f n es = some (gOk n es) := rfl
theorem gOk_true {n : Int} {es : List E} (h : gOk n es = true) : GOk n es := gOk_iff.1 h
theorem allWithin_l0 (a b : Int) (l : List Int) (hl : l.length ≤ 1048576) : ∀ (d i : Nat), i + d = l.length → Ep (fun k => impl_allWithin.l0 k a b l (l.length : Int) (i : Int)) (· = decide (∀ x ∈ l.drop i, a ≤ x ∧ x ≤ b)) := by
  intro d
  induction d with
  | zero =>
    intro i hi
    refine Ep.up ?_
    simp only [impl_allWithin.l0]
    refine Ep.neg (by omega) (Ep.now ?_)
    rw [List.drop_of_length_le (by omega)]
    simp
  | succ d ih =>
    intro i hi
    have hlt : i < l.length := by omega
    refine Ep.up ?_
    simp only [impl_allWithin.l0]
    refine Ep.pos (by omega) (Ep.pos (by omega) (Ep.pos (by omega) ?_))
    rw [rd_get hlt, wrap_succ (by omega)]
    refine Ep.bind0 (within_eq _ _ _) ?_
    refine Ep.ite (fun h => ?_) (fun h => Ep.now ?_)
    · have h' : a ≤ l[i] ∧ l[i] ≤ b := by simpa using h
      refine (ih (i + 1) (by omega)).mono ?_
      rintro _ rfl
      simp only [forall_drop' hlt, h', true_and]
    · have h' : ¬ (a ≤ l[i] ∧ l[i] ≤ b) := by simpa using h
      simp only [forall_drop' hlt, h', false_and, decide_false]
theorem allWithin_ok (l : List Int) (a b : Int) (hl : l.length ≤ 1048576) : Ep (fun k => impl_allWithin.f k l a b) (· = decide (∀ x ∈ l, a ≤ x ∧ x ≤ b)) := by
  have := allWithin_l0 a b l hl l.length 0 (by omega)
  simp only [impl_allWithin.f]
  rw [List.drop_zero] at this
  exact this
theorem isVertex_eq (n : Int) (es : List E) (v : Int) (hn : Wf .i64 n) : impl_isVertex.f n es v = some (gOk n es && decide (0 ≤ v ∧ v < n)) := by
  unfold impl_isVertex.f
  rw [implGraph]
  simp only [Option.bind_some]
  by_cases h : gOk n es = true
  · have h1 := (gOk_true h).1.1
    have h6 := (gOk_true h).1.2.1
    rw [if_pos h, wrap_id (by omega) (by omega), within_eq, h]
    simp only [Option.bind_some, Bool.true_and]
    have : (0 ≤ v ∧ v ≤ n - 1) ↔ (0 ≤ v ∧ v < n) := by omega
    simp only [this]
  · rw [if_neg h]
    have : gOk n es = false := by simpa using h
    rw [this]
    rfl
/-- The edge with this index is at v. -/
def At (es : List E) (k v : Int) : Prop := ∃ j : Nat, k = j ∧ ∃ h : j < es.length, es[j].f0 = v ∨ es[j].f1 = v
theorem At.of {es : List E} {j : Nat} {v : Int} (hj : j < es.length) : At es (j : Int) v ↔ (es[j].f0 = v ∨ es[j].f1 = v) := by
  constructor
  · rintro ⟨i, hi, h, hx⟩
    have : i = j := by omega
    subst this
    exact hx
  · intro h
    exact ⟨j, rfl, hj, h⟩
end Go.Proofs.Ytnbljcgdgblgoaa.Cf
end

section
namespace Go.Proofs.Ytnbljcgdgblgoaa.Cf
set_option linter.unusedVariables false
set_option linter.unusedSimpArgs false
def sumN : Nat → (Nat → Int) → Int
  | 0, _ => 0
  | n + 1, f => sumN n f + f n
def sumE (es : List E) (f : E → Int) : Int := (es.map f).sum
theorem sumE_cons (e : E) (r : List E) (f : E → Int) : sumE (e :: r) f = f e + sumE r f := by simp [sumE]
theorem sumN_congr {n : Nat} {f g : Nat → Int} (h : ∀ i, i < n → f i = g i) : sumN n f = sumN n g := by
  induction n with
  | zero => rfl
  | succ n ih => simp only [sumN]; rw [ih (fun i hi => h i (by omega)), h n (by omega)]
theorem sumN_le {n : Nat} {f g : Nat → Int} (h : ∀ i, i < n → f i ≤ g i) : sumN n f ≤ sumN n g := by
  induction n with
  | zero => exact Int.le_refl _
  | succ n ih =>
    simp only [sumN]
    have := ih (fun i hi => h i (by omega))
    have := h n (by omega)
    omega
theorem sumN_add (n : Nat) (f g : Nat → Int) : sumN n (fun i => f i + g i) = sumN n f + sumN n g := by
  induction n with
  | zero => rfl
  | succ n ih => simp only [sumN]; rw [ih]; omega
theorem sumN_zero (n : Nat) : sumN n (fun _ => 0) = 0 := by
  induction n with
  | zero => rfl
  | succ n ih => simp only [sumN]; rw [ih]; rfl
theorem sumN_const (n : Nat) (c : Int) : sumN n (fun _ => c) = n * c := by
  induction n with
  | zero => simp [sumN]
  | succ n ih => simp only [sumN]; rw [ih]; rw [Int.natCast_succ, Int.add_mul]; omega
theorem sumN_one {n : Nat} (k : Nat) (hk : k < n) (c : Int) : sumN n (fun i => if i = k then c else 0) = c := by
  induction n with
  | zero => omega
  | succ n ih =>
    simp only [sumN]
    by_cases h : n = k
    · subst h
      rw [if_pos rfl, sumN_congr (g := fun _ => 0) (fun i hi => by rw [if_neg (by omega)]), sumN_zero]
      omega
    · rw [ih (by omega), if_neg h]
      omega
theorem sumE_congr {es : List E} {f g : E → Int} (h : ∀ e ∈ es, f e = g e) : sumE es f = sumE es g := by
  unfold sumE
  rw [List.map_congr_left h]
theorem sumE_le {es : List E} {f g : E → Int} (h : ∀ e ∈ es, f e ≤ g e) : sumE es f ≤ sumE es g := by
  induction es with
  | nil => exact Int.le_refl _
  | cons e r ih =>
    rw [sumE_cons, sumE_cons]
    have := ih (fun x hx => h x (List.mem_cons_of_mem _ hx))
    have := h e List.mem_cons_self
    omega
theorem sumE_zero {es : List E} {f : E → Int} (h : ∀ e ∈ es, f e = 0) : sumE es f = 0 := by
  induction es with
  | nil => rfl
  | cons e r ih => rw [sumE_cons, ih (fun x hx => h x (List.mem_cons_of_mem _ hx)), h e List.mem_cons_self]; rfl
theorem sumE_nonneg {es : List E} {f : E → Int} (h : ∀ e ∈ es, 0 ≤ f e) : 0 ≤ sumE es f := by
  have := sumE_le (es := es) (f := fun _ => 0) (g := f) h
  rw [sumE_zero (fun _ _ => rfl)] at this
  exact this
theorem sumE_term {es : List E} {f : E → Int} (h : ∀ e ∈ es, 0 ≤ f e) {e : E} (he : e ∈ es) : f e ≤ sumE es f := by
  induction es with
  | nil => cases he
  | cons a r ih =>
    rw [sumE_cons]
    have h0 := sumE_nonneg (fun x hx => h x (List.mem_cons_of_mem a hx))
    rcases List.mem_cons.1 he with rfl | he
    · omega
    · have := ih (fun x hx => h x (List.mem_cons_of_mem _ hx)) he
      have := h a List.mem_cons_self
      omega
theorem sumE_mul (es : List E) (c : Int) (f : E → Int) : sumE es (fun e => c * f e) = c * sumE es f := by
  induction es with
  | nil => simp [sumE]
  | cons e r ih => rw [sumE_cons, sumE_cons, ih, Int.mul_add]
/-- What an edge takes from w when the script s is fired. -/
def lapE (s : Int → Int) (w : Int) (e : E) : Int := (if e.f0 = w then s e.f0 - s e.f1 else 0) + (if e.f1 = w then s e.f1 - s e.f0 else 0)
/-- What w loses when the script s is fired. -/
def lap (es : List E) (s : Int → Int) (w : Int) : Int := sumE es (lapE s w)
def ind (P : Int → Bool) (v : Int) : Int := if P v then 1 else 0
def one (v : Int) (t : Int) (w : Int) : Int := if w = v then t else 0
theorem lap_const {es : List E} {s : Int → Int} {c : Int} (h : ∀ e ∈ es, s e.f0 = c ∧ s e.f1 = c) (w : Int) : lap es s w = 0 := by
  apply sumE_zero
  intro e he
  unfold lapE
  rw [(h e he).1, (h e he).2]
  split <;> split <;> omega
/-- q-reduced. -/
def Red (n : Nat) (es : List E) (q : Int) (d : Int → Int) : Prop :=
  (∀ v : Int, 0 ≤ v → v < n → v ≠ q → 0 ≤ d v) ∧ ∀ S : Int → Bool, S q = false → (∃ v : Int, 0 ≤ v ∧ v < n ∧ S v = true) → ∃ v : Int, 0 ≤ v ∧ v < n ∧ S v = true ∧ d v < lap es (ind S) v
/-- From a set that is not all and not closed an edge leads out. -/
theorem exists_cut {es : List E} {S : Int → Prop} {a b : Int} (hab : Conn es a b) (ha : ¬ S a) (hb : S b) : ∃ u w, Adj es u w ∧ S u ∧ ¬ S w := by
  induction hab with
  | refl => exact absurd hb ha
  | @tail x y _ hadj ih =>
    by_cases hx : S x
    · exact ih hx
    · exact ⟨y, x, hadj.symm, hb, hx⟩
def below (n : Nat) (s : Int → Int) (t : Int) : Nat := (List.range n).countP (fun i => decide (s (i : Nat) < t))
def valE (v : Int) (e : E) : Int := if e.f0 = v ∨ e.f1 = v then 1 else 0
/-- The number of edges at a vertex. -/
def val (es : List E) (v : Int) : Int := sumE es (valE v)
def multE (a b : Int) (e : E) : Int := if (e.f0 = a ∧ e.f1 = b) ∨ (e.f0 = b ∧ e.f1 = a) then 1 else 0
/-- The number of edges between two vertices. -/
def mult (es : List E) (a b : Int) : Int := sumE es (multE a b)
theorem val_nonneg (es : List E) (v : Int) : 0 ≤ val es v := sumE_nonneg fun e _ => by unfold valE; split <;> omega
theorem mult_nonneg (es : List E) (a b : Int) : 0 ≤ mult es a b := sumE_nonneg fun e _ => by unfold multE; split <;> omega
theorem sumE_len {es : List E} {f : E → Int} (h : ∀ e ∈ es, f e ≤ 1) : sumE es f ≤ es.length := by
  induction es with
  | nil => simp [sumE]
  | cons e r ih =>
    rw [sumE_cons]
    have := ih (fun x hx => h x (List.mem_cons_of_mem _ hx))
    have := h e List.mem_cons_self
    simp only [List.length_cons]
    omega
theorem val_le (es : List E) (v : Int) : val es v ≤ es.length := sumE_len fun e _ => by unfold valE; split <;> omega
theorem mult_le (es : List E) (a b : Int) : mult es a b ≤ es.length := sumE_len fun e _ => by unfold multE; split <;> omega
/-- One vertex fires: it loses its valence. -/
theorem lap_one_self {n : Int} {es : List E} (hes : ∀ e ∈ es, EOk n e) (v t : Int) : lap es (one v t) v = t * val es v := by
  unfold lap val
  rw [← sumE_mul]
  apply sumE_congr
  intro e he
  have hk := hes e he
  unfold EOk at hk
  unfold lapE valE one
  by_cases a : e.f0 = v
  · have b : ¬ e.f1 = v := by omega
    simp [a, b]
  · by_cases b : e.f1 = v
    · simp [a, b]
    · simp [a, b]
theorem val_pos {n : Nat} {es : List E} (hj : Joined n es) {q v : Int} (hq : 0 ≤ q ∧ q < n) (hv : 0 ≤ v ∧ v < n) (hne : v ≠ q) : 0 < val es v := by
  have hc : Conn es q v := ((hj q hq.1 hq.2).symm).trans (hj v hv.1 hv.2)
  obtain ⟨u, w, ⟨e, he, hx⟩, hu, hw⟩ := exists_cut (S := fun x => x = v) hc (fun h => hne h.symm) rfl
  subst hu
  have h1 := sumE_term (f := valE u) (fun e _ => by unfold valE; split <;> omega) he
  have h2 : valE u e = 1 := by
    unfold valE
    rw [if_pos]
    rcases hx with ⟨a, _⟩ | ⟨_, b⟩
    · exact .inl a
    · exact .inr b
  unfold val
  omega
end Go.Proofs.Ytnbljcgdgblgoaa.Cf
end

section
namespace Go.Proofs.Ytnbljcgdgblgoaa.P
open Go.RowKit Go.Proofs.YtnbljcgdgblgoaaW.PrintWords Go.Proofs.YtnbljcgdgblgoaaW.PrintLast Go.Proofs.YtnbljcgdgblgoaaW.PrintMore
attribute [local go_sem] max2_int min2_int max_two min_two max_three min_three max_four min_four
set_option linter.unusedVariables false
set_option linter.unusedSimpArgs false
def impl_DivisorOk.f (k : Nat) (a0_0 : Int) (l0_1 : List (S57)) (l1 : List Int) : Option (Bool) := (impl_GraphOk.f a0_0 l0_1).bind fun t102 => (if t102 = true then (if (l1.length : Int) = a0_0 then ((impl_allWithin.f k l1 (-60) 60).bind fun t103 => (some t103)) else (some false)) else (some false))
theorem impl_DivisorOk.mono : ∀ a0 a1 a2 k, LeO (impl_DivisorOk.f k a0 a1 a2) (impl_DivisorOk.f (k + 1) a0 a1 a2) := by
 intro a0 a1 a2 k; unfold impl_DivisorOk.f; repeat' first | (with_reducible apply impl_allWithin.mono) | (with_reducible exact LeO.refl _) | (with_reducible exact LeO.none _) | (with_reducible refine LeO.ite ?_ ?_) | (with_reducible refine LeO.bind ?_ (fun _ => ?_)) | apply impl_allWithin.mono | exact LeO.none _ | refine LeO.ite ?_ ?_ | refine LeO.bind ?_ (fun _ => ?_)
set_option maxHeartbeats 8000000 in
set_option maxRecDepth 100000 in
theorem impl_DivisorOk.calls (k : Nat) (a0_0 : Int) (A0_1 : Option Addr) (c0_1 : Nat) (l0_1 : List (S57)) (A1 : Option Addr) (c1 : Nat) (l1 : List Int) (r : Bool) (w : World) (hr0_1 : Kd.C k57 w A0_1 l0_1.length l0_1) (hc0_1 : l0_1.length ≤ c0_1) (hr1 : Kd.C (Kd.int .i64) w A1 l1.length l1) (hc1 : l1.length ≤ c1) (h : impl_DivisorOk.f k a0_0 l0_1 l1 = some r) :
  Calls Try.prog 108 #[.agg #[.int .i64 a0_0, .slice A0_1 l0_1.length c0_1], .slice A1 l1.length c1] w fun e w' => e = .returned (.bool r) ∧ Below w.heap.size w w' := by
 have hu25 := Try.underlying25; have HR0_1 := Aside0.mk hr0_1; have HC0_1 := Aside0.mk hc0_1; clear hr0_1 hc0_1; have HR1 := Aside0.mk hr1; have HC1 := Aside0.mk hc1; clear hr1 hc1; have HB := Aside0.mk (Below.refl w.heap.size w); have H : ((impl_GraphOk.f a0_0 l0_1).bind fun t102 => (if t102 = true then (if (l1.length : Int) = a0_0 then ((impl_allWithin.f k l1 (-60) 60).bind fun t103 => (some t103)) else (some false)) else (some false))) = some r := h; clear h; replace H := Option.bind_eq_some_iff.mp H; obtain ⟨t102, A30, H⟩ := H; (try dsimp only at H); have A3 := Aside0.mk A30; clear A30; by_cases c4 : t102 = true; rotate_left
 ·replace c4 := Bool.eq_false_iff.mpr c4; subst c4; rw [if_neg (show ¬ (false = true) by decide)] at H; obtain rfl := Option.some.inj H; go_enter Try.func108, Try.ntmps108; (go_wp2_with (first | ((with_reducible refine gate_dst (N := 2) rfl ?_); (try (refine gate_guard (by rfl) ?_; dsimp only)); refine box_event ?hg (N := 2) ?hd (cs := #[.int .i64 a0_0, .slice A0_1 l0_1.length c0_1]) (t := 25) ?hr ?_; (case hd => rfl); (case hg => rfl); (case hr => exact zz9); intro gb101 hg w15 hbox hb; have n_ := zA4 (below_step zz1 hb) hbox (zz10 : w.heap.size ≤ gb101) (zz10 : w.heap.size ≤ gb101); clear HB; obtain ⟨HB, BK101, GW101, GE101⟩ := n_; clear hb hbox hg; have hcz16_0 := zC20 BK101; have hcz16_1 := zC21 BK101; have hfz16_0 := blk_frozen BK101.out 0; have hfz16_1 := blk_frozen BK101.out 1) | ((with_reducible refine gate_callee (f := 50) rfl ?_); refine goesL_ (some 6) rfl rfl Try.func50 (by kernel_rfl) rfl #[.agg #[.int .i64 a0_0, .slice A0_1 l0_1.length c0_1]] rfl zz4 ?_; (with_reducible refine (impl_GraphOk.calls a0_0 _ _ l0_1 false _ ?side1 ?side2 A3.out).mono ?_); (case side1 => exact zz6); (case side2 => exact HC0_1.out); rintro e w17 ⟨rfl, hb⟩; refine ⟨_, rfl, ?_⟩; have n_ := zA2 (blk_below (g := gb101) (o := .cells #[.int .i64 a0_0, .slice A0_1 l0_1.length c0_1] 25 (0, 0)) zz2 hb) (below_step zz0 hb); clear BK101 HB; obtain ⟨BK101, HB⟩ := n_; clear hb))); go_ret; exact ⟨zz7, zz0⟩
 subst c4; rw [if_pos rfl] at H; by_cases c5 : (l1.length : Int) = a0_0; rotate_left
 ·rw [if_neg c5] at H; have c5b0 : ((l1.length : Int) == a0_0) = false := beq_eq_false_iff_ne.mpr c5; have c5b1 : ((l1.length : Int) != a0_0) = true := bne_iff_ne.mpr c5; obtain rfl := Option.some.inj H; go_enter Try.func108, Try.ntmps108; (go_wp2_with (first | ((with_reducible refine gate_dst (N := 2) rfl ?_); (try (refine gate_guard (by rfl) ?_; dsimp only)); refine box_event ?hg (N := 2) ?hd (cs := #[.int .i64 a0_0, .slice A0_1 l0_1.length c0_1]) (t := 25) ?hr ?_; (case hd => rfl); (case hg => rfl); (case hr => exact zz9); intro gb101 hg w11 hbox hb; have n_ := zA4 (below_step zz1 hb) hbox (zz10 : w.heap.size ≤ gb101) (zz10 : w.heap.size ≤ gb101); clear HB; obtain ⟨HB, BK101, GW101, GE101⟩ := n_; clear hb hbox hg; have hcz12_0 := zC20 BK101; have hcz12_1 := zC21 BK101; have hfz12_0 := blk_frozen BK101.out 0; have hfz12_1 := blk_frozen BK101.out 1) | ((with_reducible refine gate_callee (f := 50) rfl ?_); refine goesL_ (some 6) rfl rfl Try.func50 (by kernel_rfl) rfl #[.agg #[.int .i64 a0_0, .slice A0_1 l0_1.length c0_1]] rfl zz4 ?_; (with_reducible refine (impl_GraphOk.calls a0_0 _ _ l0_1 true _ ?side1 ?side2 A3.out).mono ?_); (case side1 => exact zz6); (case side2 => exact HC0_1.out); rintro e w13 ⟨rfl, hb⟩; refine ⟨_, rfl, ?_⟩; have n_ := zA2 (blk_below (g := gb101) (o := .cells #[.int .i64 a0_0, .slice A0_1 l0_1.length c0_1] 25 (0, 0)) zz2 hb) (below_step zz0 hb); clear BK101 HB; obtain ⟨BK101, HB⟩ := n_; clear hb; have hcz14_0 := zC20 BK101; have hcz14_1 := zC21 BK101; have hfz14_0 := blk_frozen BK101.out 0; have hfz14_1 := blk_frozen BK101.out 1))); go_ret; exact ⟨zz7, zz0⟩
 rw [if_pos c5] at H; have c5b0 : ((l1.length : Int) == a0_0) = true := beq_iff_eq.mpr c5; have c5b1 : ((l1.length : Int) != a0_0) = false := bne_eq_false_iff_eq.mpr c5; clear c5; replace H := Option.bind_eq_some_iff.mp H; obtain ⟨t103, A60, H⟩ := H; (try dsimp only at H); have A6 := Aside0.mk A60; clear A60; obtain rfl := Option.some.inj H; go_enter Try.func108, Try.ntmps108; (go_wp2_with (first | ((with_reducible refine gate_dst (N := 2) rfl ?_); (try (refine gate_guard (by rfl) ?_; dsimp only)); refine box_event ?hg (N := 2) ?hd (cs := #[.int .i64 a0_0, .slice A0_1 l0_1.length c0_1]) (t := 25) ?hr ?_; (case hd => rfl); (case hg => rfl); (case hr => exact zz9); intro gb101 hg w7 hbox hb; have n_ := zA4 (below_step zz1 hb) hbox (zz10 : w.heap.size ≤ gb101) (zz10 : w.heap.size ≤ gb101); clear HB; obtain ⟨HB, BK101, GW101, GE101⟩ := n_; clear hb hbox hg; have hcz8_0 := zC20 BK101; have hcz8_1 := zC21 BK101; have hfz8_0 := blk_frozen BK101.out 0; have hfz8_1 := blk_frozen BK101.out 1) | ((with_reducible refine gate_callee (f := 50) rfl ?_); refine goesL_ (some 6) rfl rfl Try.func50 (by kernel_rfl) rfl #[.agg #[.int .i64 a0_0, .slice A0_1 l0_1.length c0_1]] rfl zz4 ?_; (with_reducible refine (impl_GraphOk.calls a0_0 _ _ l0_1 true _ ?side1 ?side2 A3.out).mono ?_); (case side1 => exact zz6); (case side2 => exact HC0_1.out); rintro e w9 ⟨rfl, hb⟩; refine ⟨_, rfl, ?_⟩; have n_ := zA2 (blk_below (g := gb101) (o := .cells #[.int .i64 a0_0, .slice A0_1 l0_1.length c0_1] 25 (0, 0)) zz2 hb) (below_step zz0 hb); clear BK101 HB; obtain ⟨BK101, HB⟩ := n_; clear hb; have hcz10_0 := zC20 BK101; have hcz10_1 := zC21 BK101; have hfz10_0 := blk_frozen BK101.out 0; have hfz10_1 := blk_frozen BK101.out 1) | (go_at_call 51; (with_reducible refine (impl_allWithin.calls k _ _ l1 (-60) 60 t103 _ ?side1 ?side2 A6.out).mono ?_); (case side1 => repeat (first | exact (Kd.C_below HR1.out HB.out) | (with_reducible refine Kd.C_alloc ?_ _) | (with_reducible refine Kd.C_drewN ?_ _) | (with_reducible refine Kd.C_drew ?_))); (case side2 => exact HC1.out); rintro e w' ⟨rfl, ⟨nd, rfl⟩⟩))); go_ret; exact ⟨zz7, zz0⟩
end Go.Proofs.Ytnbljcgdgblgoaa.P
end

section
namespace Go.Proofs.Ytnbljcgdgblgoaa.Cf
set_option linter.unusedVariables false
set_option linter.unusedSimpArgs false
open Go.RowKit Go.Proofs.YtnbljcgdgblgoaaW.PrintWords Go.Proofs.Ytnbljcgdgblgoaa.P
/-- The valence, 0 where there is no such vertex. -/
def valG (n : Int) (es : List E) (v : Int) : Int := if 0 ≤ v ∧ v < n then val es v else 0
theorem val_drop {es : List E} {i : Nat} (h : i < es.length) (v : Int) : val (es.drop i) v = valE v es[i] + val (es.drop (i + 1)) v := by
  rw [List.drop_eq_getElem_cons h]
  exact sumE_cons _ _ _
theorem specVal_loop (v : Int) (es : List E) (hl : es.length ≤ 1048576) : ∀ (d i : Nat) (a : Int), i + d = es.length → 0 ≤ a → a ≤ i → Ep (fun k => spec_Valence.l0 k v a es (es.length : Int) (i : Int)) (· = a + val (es.drop i) v) := by
  intro d
  induction d with
  | zero =>
    intro i a hi h0 ha
    refine Ep.up ?_
    simp only [spec_Valence.l0]
    refine Ep.neg (by omega) (Ep.now ?_)
    rw [List.drop_of_length_le (by omega)]
    simp [val, sumE]
  | succ d ih =>
    intro i a hi h0 ha
    have hlt : i < es.length := by omega
    refine Ep.up ?_
    simp only [spec_Valence.l0]
    refine Ep.pos (by omega) (Ep.pos (by omega) (Ep.pos (by omega) ?_))
    rw [rdE_get hlt, wrap_succ (by omega), wrap_id (x := a + 1) (by omega) (by omega), val_drop hlt]
    refine Ep.ite (fun h => ?_) (fun h => Ep.ite (fun h2 => ?_) (fun h2 => ?_))
    · refine (ih (i + 1) (a + 1) (by omega) (by omega) (by omega)).mono ?_
      rintro _ rfl
      unfold valE
      rw [if_pos (.inl h)]
      omega
    · refine (ih (i + 1) (a + 1) (by omega) (by omega) (by omega)).mono ?_
      rintro _ rfl
      unfold valE
      rw [if_pos (.inr h2)]
      omega
    · refine (ih (i + 1) a (by omega) h0 (by omega)).mono ?_
      rintro _ rfl
      unfold valE
      rw [if_neg (by rintro (x | x); exact h x; exact h2 x)]
      omega
theorem specValence (n : Int) (es : List E) (v : Int) (hl : es.length ≤ 1048576) : Ep (fun k => spec_Valence.f k n es v) (· = valG n es v) := by
  have hv : spec_l02Vert.f n es v = some (decide (0 ≤ v ∧ v < n)) := by
    unfold spec_l02Vert.f
    by_cases h : v ≥ 0
    · rw [if_pos h]
      have : (0 ≤ v ∧ v < n) ↔ v < n := ⟨fun x => x.2, fun x => ⟨h, x⟩⟩
      simp only [this]
    · rw [if_neg h]
      have : ¬ (0 ≤ v ∧ v < n) := fun x => h x.1
      simp only [this, decide_false]
  simp only [spec_Valence.f, valG]
  refine Ep.bind0 hv (Ep.ite (fun h => ?_) (fun h => Ep.now ?_))
  · refine (specVal_loop v es hl es.length 0 0 (by omega) (by omega) (by omega)).mono ?_
    rintro _ rfl
    rw [if_pos (by simpa using h), List.drop_zero]
    omega
  · rw [if_neg (by simpa using h)]
theorem implVal_loop (v : Int) (es : List E) (hl : es.length ≤ 1048576) : ∀ (d i : Nat) (a : Int), i + d = es.length → 0 ≤ a → a ≤ i → Ep (fun k => impl_Valence.l0 k v a es (es.length : Int) (i : Int)) (· = a + val (es.drop i) v) := by
  intro d
  induction d with
  | zero =>
    intro i a hi h0 ha
    refine Ep.up ?_
    simp only [impl_Valence.l0]
    refine Ep.neg (by omega) (Ep.now ?_)
    rw [List.drop_of_length_le (by omega)]
    simp [val, sumE]
  | succ d ih =>
    intro i a hi h0 ha
    have hlt : i < es.length := by omega
    refine Ep.up ?_
    simp only [impl_Valence.l0]
    refine Ep.pos (by omega) (Ep.pos (by omega) (Ep.pos (by omega) ?_))
    rw [rdE_get hlt, wrap_succ (by omega), wrap_id (x := a + 1) (by omega) (by omega), val_drop hlt]
    refine Ep.ite (fun h => ?_) (fun h => Ep.ite (fun h2 => ?_) (fun h2 => ?_))
    · refine (ih (i + 1) (a + 1) (by omega) (by omega) (by omega)).mono ?_
      rintro _ rfl
      unfold valE
      rw [if_pos (.inl h)]
      omega
    · refine (ih (i + 1) (a + 1) (by omega) (by omega) (by omega)).mono ?_
      rintro _ rfl
      unfold valE
      rw [if_pos (.inr h2)]
      omega
    · refine (ih (i + 1) a (by omega) h0 (by omega)).mono ?_
      rintro _ rfl
      unfold valE
      rw [if_neg (by rintro (x | x); exact h x; exact h2 x)]
      omega
theorem implValence (n : Int) (es : List E) (v : Int) (hl : es.length ≤ 1048576) : Ep (fun k => impl_Valence.f k n es v) (· = valG n es v) := by
  simp only [impl_Valence.f, valG]
  refine Ep.ite (fun h => ?_) (fun h => ?_)
  · refine Ep.up ?_
    simp only [impl_Valence.j0]
    refine Ep.pos trivial (Ep.now ?_)
    rw [if_neg (by omega)]
  · refine Ep.up ?_
    simp only [impl_Valence.j0]
    refine Ep.ite (fun h2 => Ep.now ?_) (fun h2 => ?_)
    · have : v ≥ n := by simpa using h2
      rw [if_neg (by omega)]
    · have : ¬ v ≥ n := by simpa using h2
      refine (implVal_loop v es hl es.length 0 0 (by omega) (by omega) (by omega)).mono ?_
      rintro _ rfl
      rw [if_pos (by omega), List.drop_zero]
      omega
end Go.Proofs.Ytnbljcgdgblgoaa.Cf
end

section
namespace Go.Proofs.Ytnbljcgdgblgoaa.Cf
set_option linter.unusedVariables false
set_option linter.unusedSimpArgs false
/-- The edges from v to a list of vertices. -/
def burnSum (es : List E) (b : List Int) (v : Int) : Int := (b.map (mult es v)).sum
inductive Burn (n : Nat) (es : List E) (d : Int → Int) (q : Int) : List Int → Prop
  | start : Burn n es d q [q]
  | step {b : List Int} {v : Int} : Burn n es d q b → 0 ≤ v → v < n → v ∉ b → d v < burnSum es b v → Burn n es d q (b ++ [v])
theorem Burn.ok {n : Nat} {es : List E} {d : Int → Int} {q : Int} {b : List Int} (hq : 0 ≤ q ∧ q < n) (h : Burn n es d q b) : b.Nodup ∧ (∀ v ∈ b, 0 ≤ v ∧ v < n) ∧ q ∈ b := by
  induction h with
  | start => exact ⟨by simp, fun v hv => by rw [List.mem_singleton.1 hv]; exact hq, by simp⟩
  | @step b v _ h0 h1 hv _ ih =>
    refine ⟨?_, fun x hx => ?_, List.mem_append_left _ ih.2.2⟩
    · rw [List.nodup_append]
      exact ⟨ih.1, by simp, fun a ha c hc => by
        rw [List.mem_singleton.1 hc]
        rintro rfl
        exact hv ha⟩
    · rcases List.mem_append.1 hx with hx | hx
      · exact ih.2.1 x hx
      · rw [List.mem_singleton.1 hx]
        exact ⟨h0, h1⟩
theorem Burn.len {n : Nat} {es : List E} {d : Int → Int} {q : Int} {b : List Int} (hq : 0 ≤ q ∧ q < n) (h : Burn n es d q b) : b.length ≤ n := nodup_len n b (h.ok hq).1 (h.ok hq).2.1
theorem sumN_le_const {n : Nat} {f : Nat → Int} {c : Int} (h : ∀ i, i < n → f i ≤ c) : sumN n f ≤ n * c := by
  rw [← sumN_const]
  exact sumN_le h
theorem sumN_nonneg {n : Nat} {f : Nat → Int} (h : ∀ i, i < n → 0 ≤ f i) : 0 ≤ sumN n f := by
  have := sumN_le (n := n) (f := fun _ => 0) (g := f) h
  rw [sumN_zero] at this
  exact this
structure Sets (n : Nat) (es : List E) (q : Int) (d u : Int → Int) : Prop where
  pos : ∀ w, 0 ≤ u w
  at_q : u q = 0
  keeps : ∀ v : Int, 0 ≤ v → v < n → v ≠ q → 0 ≤ d v - lap es u v
theorem Sets.zero {n : Nat} {es : List E} {q : Int} {d : Int → Int} (h : ∀ v : Int, 0 ≤ v → v < n → v ≠ q → 0 ≤ d v) : Sets n es q d (fun _ => 0) where
  pos := fun _ => Int.le_refl _
  at_q := rfl
  keeps := fun v h0 h1 h2 => by
    rw [lap_const (c := 0) (fun _ _ => ⟨rfl, rfl⟩)]
    have := h v h0 h1 h2
    omega
/-- The first vertex from i on that burns, or -1. -/
def nextB (es : List E) (d : Int → Int) (b : List Int) : Nat → Nat → Int
  | 0, _ => -1
  | k + 1, i => if (i : Int) ∉ b ∧ d i < burnSum es b i then i else nextB es d b k (i + 1)
theorem nextB_ok (es : List E) (d : Int → Int) (b : List Int) : ∀ (k i : Nat), (nextB es d b k i = -1 ∧ ∀ j : Nat, i ≤ j → j < i + k → (j : Int) ∉ b → burnSum es b j ≤ d j) ∨ ((i : Int) ≤ nextB es d b k i ∧ nextB es d b k i < i + k ∧ nextB es d b k i ∉ b ∧ d (nextB es d b k i) < burnSum es b (nextB es d b k i))
  | 0, i => .inl ⟨rfl, fun j h0 h1 => by omega⟩
  | k + 1, i => by
    unfold nextB
    by_cases h : (i : Int) ∉ b ∧ d i < burnSum es b i
    · rw [if_pos h]
      exact .inr ⟨by omega, by omega, h.1, h.2⟩
    · rw [if_neg h]
      rcases nextB_ok es d b k (i + 1) with ⟨h1, h2⟩ | ⟨h1, h2, h3⟩
      · refine .inl ⟨h1, fun j h3 h4 h5 => ?_⟩
        by_cases e : j = i
        · subst e
          apply Classical.byContradiction
          intro hc
          exact h ⟨h5, by omega⟩
        · exact h2 j (by omega) (by omega) h5
      · exact .inr ⟨by omega, by omega, h3⟩
def burnW (n : Nat) (es : List E) (d : Int → Int) : Nat → List Int → List Int
  | 0, b => b
  | k + 1, b => if nextB es d b n 0 < 0 then b else burnW n es d k (b ++ [nextB es d b n 0])
def burnF (n : Nat) (es : List E) (d : Int → Int) (q : Int) : List Int := burnW n es d n [q]
def BClosed (n : Nat) (es : List E) (d : Int → Int) (b : List Int) : Prop := ∀ v : Int, 0 ≤ v → v < n → v ∉ b → burnSum es b v ≤ d v
theorem nextB_closed {n : Nat} {es : List E} {d : Int → Int} {b : List Int} (h : nextB es d b n 0 < 0) : BClosed n es d b := by
  rcases nextB_ok es d b n 0 with ⟨_, h2⟩ | ⟨h1, _⟩
  · intro v h0 h1 hm
    have e : ((v.toNat : Nat) : Int) = v := by omega
    have := h2 v.toNat (by omega) (by omega) (by rw [e]; exact hm)
    rw [e] at this
    exact this
  · omega
theorem burnW_ok {n : Nat} {es : List E} {d : Int → Int} {q : Int} (hq : 0 ≤ q ∧ q < n) : ∀ (k : Nat) (b : List Int), n + 1 ≤ b.length + k → Burn n es d q b → Burn n es d q (burnW n es d k b) ∧ BClosed n es d (burnW n es d k b)
  | 0, b, hl, h => by have := h.len hq; omega
  | k + 1, b, hl, h => by
    unfold burnW
    by_cases hc : nextB es d b n 0 < 0
    · rw [if_pos hc]
      exact ⟨h, nextB_closed hc⟩
    · rw [if_neg hc]
      rcases nextB_ok es d b n 0 with ⟨h1, _⟩ | ⟨h1, h2, h3, h4⟩
      · omega
      · exact burnW_ok hq k _ (by simp; omega) (h.step (by omega) (by omega) h3 h4)
theorem burnF_ok {n : Nat} {es : List E} {d : Int → Int} {q : Int} (hq : 0 ≤ q ∧ q < n) : Burn n es d q (burnF n es d q) ∧ BClosed n es d (burnF n es d q) := burnW_ok hq n [q] (by simp; omega) .start
/-- Off q a reduced divisor lies below the valence. -/
theorem Red.lt {n : Nat} {es : List E} (hes : ∀ e ∈ es, EOk n e) {q : Int} {d : Int → Int} (h : Red n es q d) {v : Int} (h0 : 0 ≤ v) (h1 : v < n) (hv : v ≠ q) : 0 ≤ d v ∧ d v < val es v := by
  refine ⟨h.1 v h0 h1 hv, ?_⟩
  obtain ⟨w, _, _, hw, hlt⟩ := h.2 (fun x => decide (x = v)) (by simpa using fun e => hv e.symm) ⟨v, h0, h1, by simp⟩
  obtain rfl : w = v := by simpa using hw
  have e : ind (fun x => decide (x = w)) = one w 1 := by
    funext x
    unfold ind one
    by_cases c : x = w <;> simp [c]
  rw [e, lap_one_self hes] at hlt
  omega
end Go.Proofs.Ytnbljcgdgblgoaa.Cf
end

section
namespace Go.Proofs.Ytnbljcgdgblgoaa.Cf
set_option linter.unusedVariables false
set_option linter.unusedSimpArgs false
open Go.Proofs.YtnbljcgdgblgoaaW.PrintWords
theorem rd_set {x : List Int} {i : Int} (h0 : 0 ≤ i) (h1 : i < x.length) (y : Int) {w : Int} (hw : 0 ≤ w) : rd (x.set i.toNat y) w = if w = i then y else rd x w := by
  obtain ⟨a, rfl⟩ := Int.eq_ofNat_of_zero_le h0
  obtain ⟨b, rfl⟩ := Int.eq_ofNat_of_zero_le hw
  simp only [Int.ofNat_eq_natCast, Int.toNat_natCast, rd_nat, List.getD_eq_getElem?_getD] at *
  by_cases c : b = a
  · subst c
    rw [List.getElem?_set_self (by omega), if_pos rfl]
    rfl
  · rw [List.getElem?_set_ne (fun y => c y.symm), if_neg (by omega)]
/-- A list's numbers lie between -B and B. -/
def Bd (x : List Int) (B : Int) : Prop := ∀ w : Int, 0 ≤ w → w < x.length → -B ≤ rd x w ∧ rd x w ≤ B
theorem Bd.mono {x : List Int} {B B' : Int} (h : Bd x B) (hB : B ≤ B') : Bd x B' := fun w h0 h1 => by have := h w h0 h1; omega
/-- The list c tells s on the first n numbers. -/
def Rep (n : Nat) (c : List Int) (s : Int → Int) : Prop := c.length = n ∧ ∀ w : Int, 0 ≤ w → w < n → rd c w = s w
theorem Rep.ext {n : Nat} {c c' : List Int} {s : Int → Int} (h : Rep n c s) (h' : Rep n c' s) : c = c' := by
  apply List.ext_getElem (by rw [h.1, h'.1])
  intro i h1 h2
  have e := h.2 i (by omega) (by have := h.1; omega)
  have e' := h'.2 i (by omega) (by have := h.1; omega)
  rw [rd_get h1] at e
  rw [rd_get h2] at e'
  rw [e, e']
theorem Rep.congr {n : Nat} {c : List Int} {s t : Int → Int} (h : Rep n c s) (he : ∀ w : Int, 0 ≤ w → w < n → s w = t w) : Rep n c t := ⟨h.1, fun w h0 h1 => (h.2 w h0 h1).trans (he w h0 h1)⟩
theorem Rep.set {n : Nat} {c : List Int} {s : Int → Int} (h : Rep n c s) {v : Int} (h0 : 0 ≤ v) (h1 : v < n) (y : Int) : Rep n (c.set v.toNat y) (fun w => if w = v then y else s w) := by
  refine ⟨by rw [List.length_set]; exact h.1, fun w w0 w1 => ?_⟩
  rw [rd_set h0 (by rw [h.1]; exact h1) y w0, h.2 w w0 w1]
theorem rd_replicate (n : Nat) (v : Int) : rd (List.replicate n (0 : Int)) v = 0 := by
  unfold rd
  rw [List.getD_eq_getElem?_getD]
  by_cases h : v.toNat < n
  · rw [List.getElem?_replicate_of_lt h]; rfl
  · rw [List.getElem?_eq_none (by simp; omega)]; rfl
theorem Rep.zero (n : Nat) : Rep n (List.replicate n (0 : Int)) (fun _ => 0) := ⟨by simp, fun w _ _ => rd_replicate n w⟩
/-- The list of a function's first n values. -/
def repL (n : Nat) (f : Int → Int) : List Int := (List.range n).map fun i : Nat => f (i : Int)
theorem repL_len (n : Nat) (f : Int → Int) : (repL n f).length = n := by simp [repL]
theorem repL_rep (n : Nat) (f : Int → Int) : Rep n (repL n f) f := by
  refine ⟨by simp [repL], fun w h0 h1 => ?_⟩
  obtain ⟨a, rfl⟩ := Int.eq_ofNat_of_zero_le h0
  rw [rd_get (by simp [repL]; omega)]
  simp [repL]
theorem Rep.eq {n : Nat} {c : List Int} {s : Int → Int} (h : Rep n c s) : c = repL n s := h.ext (repL_rep n s)
theorem valG_in {n : Int} {es : List E} {v : Int} (h : 0 ≤ v ∧ v < n) : valG n es v = val es v := by
  unfold valG
  rw [if_pos h]
/-- The edges to what burns, counted over all vertices. -/
theorem sum_pick (f : Int → Int) (n : Nat) : ∀ (b : List Int), b.Nodup → (∀ v ∈ b, 0 ≤ v ∧ v < n) → sumN n (fun w => if (w : Int) ∈ b then f w else 0) = (b.map f).sum
  | [], _, _ => by simp [sumN_zero]
  | a :: r, hb, hr => by
    have ha := hr a List.mem_cons_self
    rw [List.map_cons, List.sum_cons, ← sum_pick f n r (List.nodup_cons.1 hb).2 (fun v hv => hr v (List.mem_cons_of_mem _ hv)), ← sumN_one (n := n) a.toNat (by omega) (f a), ← sumN_add]
    apply sumN_congr
    intro i hi
    by_cases e : i = a.toNat
    · have e' : (i : Int) = a := by omega
      rw [if_pos e, e', if_pos List.mem_cons_self, if_neg (List.nodup_cons.1 hb).1]
      omega
    · have e' : (i : Int) ≠ a := by omega
      rw [if_neg e]
      simp [e']
end Go.Proofs.Ytnbljcgdgblgoaa.Cf
end

section
namespace Go.Proofs.Ytnbljcgdgblgoaa.Cf
set_option linter.unusedVariables false
set_option linter.unusedSimpArgs false
open Go.RowKit Go.Proofs.YtnbljcgdgblgoaaW.PrintWords Go.Proofs.Ytnbljcgdgblgoaa.P
/-- Where the graph is valid. -/
structure Gr (n : Nat) (es : List E) (q : Int) : Prop where
  n1 : 1 ≤ n
  n6 : n ≤ 6
  hes : ∀ e ∈ es, EOk n e
  hel : es.length ≤ 12
  hj : Joined n es
  hq : 0 ≤ q ∧ q < n
theorem Gr.of {n : Nat} {es : List E} {q : Int} (h : GOk (n : Int) es) (hq : 0 ≤ q ∧ q < n) : Gr n es q := by
  obtain ⟨h1, _, h3⟩ := h
  unfold EsOk at h1
  exact ⟨by omega, by omega, h1.2.2.2, h1.2.2.1, h3, hq⟩
end Go.Proofs.Ytnbljcgdgblgoaa.Cf
end

section
namespace Go.Proofs.Ytnbljcgdgblgoaa.Cf
set_option linter.unusedVariables false
set_option linter.unusedSimpArgs false
open Go.RowKit Go.Proofs.YtnbljcgdgblgoaaW.PrintWords Go.Proofs.YtnbljcgdgblgoaaW.PrintMore Go.Proofs.Ytnbljcgdgblgoaa.P
theorem multE_alt {n : Int} {e : E} (h : EOk n e) {a b : Int} (hab : a ≠ b) : multE a b e = if e.f0 = mn a b ∧ e.f1 = mx a b then 1 else 0 := by
  unfold EOk at h
  unfold multE mn mx
  by_cases c : b < a
  · rw [if_pos c, if_neg (show ¬ a < b by omega)]
    by_cases x : e.f0 = b ∧ e.f1 = a
    · rw [if_pos (.inr x), if_pos x]
    · rw [if_neg (by omega), if_neg x]
  · rw [if_neg c, if_pos (show a < b by omega)]
    by_cases x : e.f0 = a ∧ e.f1 = b
    · rw [if_pos (.inl x), if_pos x]
    · rw [if_neg (by omega), if_neg x]
theorem mult_self {n : Int} {es : List E} (hes : ∀ e ∈ es, EOk n e) (a : Int) : mult es a a = 0 := by
  apply sumE_zero
  intro e he
  have h := hes e he
  unfold EOk at h
  unfold multE
  rw [if_neg (by omega)]
theorem mult_drop {es : List E} {i : Nat} (h : i < es.length) (a b : Int) : mult (es.drop i) a b = multE a b es[i] + mult (es.drop (i + 1)) a b := by
  rw [List.drop_eq_getElem_cons h]
  exact sumE_cons _ _ _
theorem specMult_l0 (n : Int) (es : List E) (hes : ∀ e ∈ es, EOk n e) (hel : es.length ≤ 12) (a b : Int) (hab : a ≠ b) : ∀ (d i : Nat) (c : Int), i + d = es.length → 0 ≤ c → c ≤ i → Ep (fun k => spec_Multiplicity.l0 k a b c es (es.length : Int) (i : Int)) (· = c + mult (es.drop i) a b) := by
  intro d
  induction d with
  | zero =>
    intro i c hi h0 h1
    refine Ep.up ?_
    simp only [spec_Multiplicity.l0]
    refine Ep.neg (by omega) (Ep.now ?_)
    rw [List.drop_of_length_le (by omega)]
    simp [mult, sumE]
  | succ d ih =>
    intro i c hi h0 h1
    have hlt : i < es.length := by omega
    have hk := hes _ (List.getElem_mem hlt)
    refine Ep.up ?_
    simp only [spec_Multiplicity.l0]
    refine Ep.pos (by omega) (Ep.pos (by omega) (Ep.pos (by omega) ?_))
    rw [rdE_get hlt, wrap_succ (by omega), wrap_id (x := c + 1) (by omega) (by omega), mult_drop hlt, multE_alt hk hab]
    refine Ep.ite (fun h => Ep.ite (fun h2 => ?_) (fun h2 => ?_)) (fun h => ?_)
    · rw [if_pos ⟨h, h2⟩]
      refine (ih (i + 1) (c + 1) (by omega) (by omega) (by omega)).mono ?_
      rintro _ rfl
      omega
    · rw [if_neg (fun x => h2 x.2)]
      refine (ih (i + 1) c (by omega) (by omega) (by omega)).mono ?_
      rintro _ rfl
      omega
    · rw [if_neg (fun x => h x.1)]
      refine (ih (i + 1) c (by omega) (by omega) (by omega)).mono ?_
      rintro _ rfl
      omega
theorem l02Vert_eq (n : Int) (es : List E) (v : Int) : spec_l02Vert.f n es v = some (decide (0 ≤ v ∧ v < n)) := by
  unfold spec_l02Vert.f
  by_cases h : v ≥ 0
  · rw [if_pos h]
    have : (0 ≤ v ∧ v < n) ↔ v < n := ⟨fun x => x.2, fun x => ⟨h, x⟩⟩
    simp only [this]
  · rw [if_neg h]
    have : ¬ (0 ≤ v ∧ v < n) := fun x => h x.1
    simp only [this, decide_false]
theorem specMult (n : Int) (es : List E) (hes : ∀ e ∈ es, EOk n e) (hel : es.length ≤ 12) (a b : Int) (ha : 0 ≤ a ∧ a < n) (hb : 0 ≤ b ∧ b < n) : Ep (fun k => spec_Multiplicity.f k n es a b) (· = mult es a b) := by
  simp only [spec_Multiplicity.f]
  refine Ep.bind0 (l02Vert_eq _ _ _) (Ep.pos (by simpa using ha) (Ep.bind0 (l02Vert_eq _ _ _) (Ep.pos (by simpa using hb) ?_)))
  refine Ep.up ?_
  simp only [spec_Multiplicity.j0]
  refine Ep.ite (fun h => Ep.now ?_) (fun h => ?_)
  · have : a = b := by simpa using h
    rw [this, mult_self hes]
  · have hab : a ≠ b := by simpa using h
    refine (specMult_l0 n es hes hel a b hab es.length 0 0 (by omega) (by omega) (by omega)).mono ?_
    rintro _ rfl
    simp
theorem implMult_l0 (n : Int) (es : List E) (hes : ∀ e ∈ es, EOk n e) (hel : es.length ≤ 12) (a b : Int) (hab : a ≠ b) : ∀ (d i : Nat) (c : Int), i + d = es.length → 0 ≤ c → c ≤ i → Ep (fun k => impl_Multiplicity.l0 k a b c es (es.length : Int) (i : Int)) (· = c + mult (es.drop i) a b) := by
  intro d
  induction d with
  | zero =>
    intro i c hi h0 h1
    refine Ep.up ?_
    simp only [impl_Multiplicity.l0]
    refine Ep.neg (by omega) (Ep.now ?_)
    rw [List.drop_of_length_le (by omega)]
    simp [mult, sumE]
  | succ d ih =>
    intro i c hi h0 h1
    have hlt : i < es.length := by omega
    have hk := hes _ (List.getElem_mem hlt)
    refine Ep.up ?_
    simp only [impl_Multiplicity.l0]
    refine Ep.pos (by omega) (Ep.pos (by omega) (Ep.pos (by omega) ?_))
    rw [rdE_get hlt, wrap_succ (by omega), wrap_id (x := c + 1) (by omega) (by omega), mult_drop hlt, multE_alt hk hab]
    refine Ep.ite (fun h => Ep.ite (fun h2 => ?_) (fun h2 => ?_)) (fun h => ?_)
    · rw [if_pos ⟨h, h2⟩]
      refine (ih (i + 1) (c + 1) (by omega) (by omega) (by omega)).mono ?_
      rintro _ rfl
      omega
    · rw [if_neg (fun x => h2 x.2)]
      refine (ih (i + 1) c (by omega) (by omega) (by omega)).mono ?_
      rintro _ rfl
      omega
    · rw [if_neg (fun x => h x.1)]
      refine (ih (i + 1) c (by omega) (by omega) (by omega)).mono ?_
      rintro _ rfl
      omega
theorem implMult (n : Int) (es : List E) (hes : ∀ e ∈ es, EOk n e) (hel : es.length ≤ 12) (a b : Int) (ha : 0 ≤ a ∧ a < n) (hb : 0 ≤ b ∧ b < n) : Ep (fun k => impl_Multiplicity.f k n es a b) (· = mult es a b) := by
  simp only [impl_Multiplicity.f]
  refine Ep.neg (by unfold mn; split <;> omega) (Ep.neg (by unfold mx; split <;> omega) ?_)
  refine Ep.up ?_
  simp only [impl_Multiplicity.j0]
  refine Ep.ite (fun h => Ep.now ?_) (fun h => ?_)
  · have : a = b := by simpa using h
    rw [this, mult_self hes]
  · have hab : a ≠ b := by simpa using h
    refine (implMult_l0 n es hes hel a b hab es.length 0 0 (by omega) (by omega) (by omega)).mono ?_
    rintro _ rfl
    simp
/-- The first place, counted from i; or -1. -/
def idxF (x : Int) : List Int → Nat → Int
  | [], _ => -1
  | a :: r, i => if x = a then i else idxF x r (i + 1)
theorem idxF_drop {l : List Int} {i : Nat} (h : i < l.length) (x : Int) (j : Nat) : idxF x (l.drop i) j = if x = l[i] then (j : Int) else idxF x (l.drop (i + 1)) (j + 1) := by
  rw [List.drop_eq_getElem_cons h]
  rfl
theorem idxF_mem (x : Int) : ∀ (l : List Int) (i : Nat), 0 ≤ idxF x l i ↔ x ∈ l
  | [], i => by simp [idxF]
  | a :: r, i => by
    unfold idxF
    by_cases h : x = a
    · rw [if_pos h, h]; simp
    · rw [if_neg h, idxF_mem x r (i + 1)]; simp [h]
theorem index_l0 (l : List Int) (x : Int) (hl : l.length ≤ 1048576) : ∀ (d i : Nat), i + d = l.length → Ep (fun k => slices_Index_int_int.l0 k l x (l.length : Int) (i : Int)) (· = idxF x (l.drop i) i) := by
  intro d
  induction d with
  | zero =>
    intro i hi
    refine Ep.up ?_
    simp only [slices_Index_int_int.l0]
    refine Ep.neg (by omega) (Ep.now ?_)
    rw [List.drop_of_length_le (by omega)]
    rfl
  | succ d ih =>
    intro i hi
    have hlt : i < l.length := by omega
    refine Ep.up ?_
    simp only [slices_Index_int_int.l0]
    refine Ep.pos (by omega) (Ep.pos (by omega) (Ep.pos (by omega) ?_))
    rw [rd_get hlt, wrap_succ (by omega), idxF_drop hlt]
    refine Ep.ite (fun h => Ep.now ?_) (fun h => ?_)
    · rw [if_pos h]
    · rw [if_neg h]
      exact ih (i + 1) (by omega)
theorem index_ok (l : List Int) (x : Int) (hl : l.length ≤ 1048576) : Ep (fun k => slices_Index_int_int.f k l x) (· = idxF x l 0) := by
  have := index_l0 l x hl l.length 0 (by omega)
  simp only [slices_Index_int_int.f]
  exact this
theorem contains_ok (l : List Int) (x : Int) (hl : l.length ≤ 1048576) : Ep (fun k => slices_Contains_int_int.f k l x) (· = decide (x ∈ l)) := by
  simp only [slices_Contains_int_int.f]
  refine Ep.bind (index_ok l x hl) ?_
  rintro _ rfl
  refine Ep.now ?_
  have := idxF_mem x l 0
  simp only [ge_iff_le, this]
theorem burnSum_bd {es : List E} (hel : es.length ≤ 12) (v : Int) : ∀ (b : List Int), 0 ≤ burnSum es b v ∧ burnSum es b v ≤ 12 * b.length
  | [] => by simp [burnSum]
  | a :: r => by
    have ih := burnSum_bd hel v r
    have h0 := mult_nonneg es v a
    have h1 := mult_le es v a
    unfold burnSum at ih ⊢
    rw [List.map_cons, List.sum_cons, List.length_cons]
    omega
/-- The list of truth values tells what burns. -/
def BRep (n : Nat) (x : List Bool) (b : List Int) : Prop := x.length = n ∧ ∀ w : Nat, w < n → rdOf false x (w : Int) = decide ((w : Int) ∈ b)
theorem BRep.push {n : Nat} {x : List Bool} {b : List Int} (h : BRep n x b) {v : Nat} (hv : v < n) : BRep n (x.set v true) (b ++ [(v : Int)]) := by
  refine ⟨by rw [List.length_set]; exact h.1, fun w hw => ?_⟩
  have := h.2 w hw
  simp only [rdOf, Int.toNat_natCast, List.getD_eq_getElem?_getD] at this ⊢
  by_cases e : v = w
  · subst e
    rw [List.getElem?_set_self (by have := h.1; omega)]
    simp
  · rw [List.getElem?_set_ne e, this]
    have : ¬ (w : Int) = v := by omega
    simp [this]
theorem BRep.start {n : Nat} {q : Int} (h0 : 0 ≤ q) (h1 : q < n) : BRep n ((List.replicate n false).set q.toNat true) [q] := by
  have h : BRep n (List.replicate n false) [] := ⟨by simp, fun w hw => by simp [rdOf, hw]⟩
  have := h.push (v := q.toNat) (by omega)
  have e : ((q.toNat : Nat) : Int) = q := by omega
  rw [e] at this
  exact this
theorem specBurn_l2 {n : Nat} {es : List E} {q : Int} (g : Gr n es q) (d : List Int) (hd : d.length = n) (b : List Int) (hok : b.Nodup ∧ ∀ v ∈ b, 0 ≤ v ∧ v < n) (x : List Bool) (hx : BRep n x b) (v : Nat) (hv : v < n) (next : Int) {Q : List Int → Prop}
    (hk : Ep (fun k => spec_l05Burn.l1 k d b x (if (v : Int) ∉ b ∧ rd d v < burnSum es b v then (v : Int) else next) ((v : Int) - 1) (n : Int) es) Q) :
    ∀ (dd i : Nat), i + dd = n → Ep (fun k => spec_l05Burn.l2 k d b x next (v : Int) (sumN i (fun w => if (w : Int) ∈ b then mult es v w else 0)) (i : Int) (n : Int) es) Q := by
  have hn := g.n6
  have hel := g.hel
  have hxl := hx.1
  have hbd : ∀ i, i ≤ n → 0 ≤ sumN i (fun w => if (w : Int) ∈ b then mult es v w else 0) ∧ sumN i (fun w => if (w : Int) ∈ b then mult es v w else 0) ≤ i * 12 := by
    intro i hi
    have hm : ∀ w : Nat, 0 ≤ (if (w : Int) ∈ b then mult es v w else 0) ∧ (if (w : Int) ∈ b then mult es v w else 0) ≤ 12 := by
      intro w
      have h0 := mult_nonneg es v w
      have h1 := mult_le es v w
      split <;> omega
    exact ⟨sumN_nonneg fun w _ => (hm w).1, sumN_le_const fun w _ => (hm w).2⟩
  intro dd
  induction dd with
  | zero =>
    intro i hi
    obtain rfl : i = n := by omega
    rw [sum_pick (mult es v) i b hok.1 hok.2]
    show Ep (fun k => spec_l05Burn.l2 k d b x next (v : Int) (burnSum es b v) (i : Int) (i : Int) es) Q
    refine Ep.up ?_
    simp only [spec_l05Burn.l2]
    rw [wrap_id (x := (v : Int) - 1) (by omega) (by omega)]
    refine Ep.neg (by omega) (Ep.pos (by omega) (Ep.pos (by omega) ?_))
    rw [hx.2 v hv]
    refine Ep.ite (fun h => ?_) (fun h => ?_)
    · have h' : (v : Int) ∈ b := by simpa using h
      rw [if_neg (fun y => y.1 h')] at hk
      exact hk
    · have h' : (v : Int) ∉ b := by simpa using h
      refine Ep.pos (by omega) (Ep.ite (fun h2 => ?_) (fun h2 => ?_))
      · rw [if_pos ⟨h', h2⟩] at hk
        exact hk
      · rw [if_neg (fun y => h2 y.2)] at hk
        exact hk
  | succ dd ih =>
    intro i hi
    have hb := hbd i (by omega)
    have hb1 := hbd (i + 1) (by omega)
    have ih' := ih (i + 1) (by omega)
    simp only [sumN] at ih' hb1
    refine Ep.up ?_
    simp only [spec_l05Burn.l2]
    refine Ep.pos (by omega) (Ep.pos (by omega) (Ep.pos (by omega) ?_))
    rw [hx.2 i (by omega), wrap_succ (by omega)]
    refine Ep.ite (fun h => ?_) (fun h => ?_)
    · have h' : (i : Int) ∈ b := by simpa using h
      rw [if_pos h'] at ih' hb1
      refine Ep.bind (specMult n es g.hes hel v i (by omega) (by omega)) ?_
      rintro _ rfl
      rw [wrap_id (by omega) (by omega)]
      exact ih'
    · have h' : (i : Int) ∉ b := by simpa using h
      rw [if_neg h', Int.add_zero] at ih'
      exact ih'
theorem specBurn_l1 {n : Nat} {es : List E} {q : Int} (g : Gr n es q) (d : List Int) (hd : d.length = n) (b : List Int) (hok : b.Nodup ∧ ∀ v ∈ b, 0 ≤ v ∧ v < n) (x : List Bool) (hx : BRep n x b) {Q : List Int → Prop}
    (hk : Ep (fun k => spec_l05Burn.l1 k d b x (nextB es (rd d) b n 0) (-1) (n : Int) es) Q) :
    ∀ i : Nat, i ≤ n → Ep (fun k => spec_l05Burn.l1 k d b x (nextB es (rd d) b (n - i) i) ((i : Int) - 1) (n : Int) es) Q := by
  have hn := g.n6
  intro i
  induction i with
  | zero => intro _; exact hk
  | succ i ih =>
    intro hi
    have ih' := ih (by omega)
    obtain ⟨m, hm⟩ : ∃ m, n - i = m + 1 := ⟨n - i - 1, by omega⟩
    have hm2 : n - (i + 1) = m := by omega
    rw [hm] at ih'
    unfold nextB at ih'
    rw [hm2, show (((i + 1 : Nat) : Int) - 1) = (i : Int) by omega]
    refine Ep.up ?_
    simp only [spec_l05Burn.l1]
    refine Ep.pos (by omega) ?_
    exact specBurn_l2 g d hd b hok x hx i (by omega) _ ih' n 0 (by omega)
theorem specBurn_l0 {n : Nat} {es : List E} {q : Int} (g : Gr n es q) (d : List Int) (hd : d.length = n) : ∀ (k : Nat) (b : List Int) (x : List Bool), n + 1 ≤ b.length + k → Burn n es (rd d) q b → BRep n x b → Ep (fun f => spec_l05Burn.l0 f d b x (n : Int) es) (· = burnW n es (rd d) k b) := by
  have hn := g.n6
  intro k
  induction k with
  | zero =>
    intro b x hl hb _
    have := hb.len g.hq
    omega
  | succ k ih =>
    intro b x hl hb hx
    have hok := hb.ok g.hq
    have hlen := hb.len g.hq
    have hxl := hx.1
    refine Ep.up ?_
    simp only [spec_l05Burn.l0]
    rw [wrap_id (x := (n : Int) - 1) (by omega) (by omega)]
    have h1 := specBurn_l1 (Q := (· = burnW n es (rd d) (k + 1) b)) g d hd b ⟨hok.1, hok.2.1⟩ x hx ?_ n (Nat.le_refl _)
    · rw [Nat.sub_self] at h1
      exact h1
    · unfold burnW
      have hnx := nextB_ok es (rd d) b n 0
      generalize nextB es (rd d) b n 0 = v at hnx ⊢
      refine Ep.up ?_
      simp only [spec_l05Burn.l1]
      refine Ep.neg (by omega) (Ep.ite (fun h => Ep.now ?_) (fun h => ?_))
      · rw [if_pos h]
      · rw [if_neg h]
        rcases hnx with ⟨h2, _⟩ | ⟨h2, h3, h4, h5⟩
        · omega
        · obtain ⟨v, rfl⟩ := Int.eq_ofNat_of_zero_le (a := v) (by omega)
          refine Ep.pos (by omega) (Ep.pos (by omega) (Ep.pos (by omega) ?_))
          exact ih _ _ (by simp; omega) (hb.step (by omega) (by omega) h4 h5) (hx.push (by omega))
theorem specBurn {n : Nat} {es : List E} {q : Int} (g : Gr n es q) (d : List Int) (hd : d.length = n) : Ep (fun k => spec_l05Burn.f k (n : Int) es d q) (· = burnF n es (rd d) q) := by
  have hn := g.n6
  have hq := g.hq
  simp only [spec_l05Burn.f]
  refine Ep.pos (by omega) (Ep.pos (by omega) (Ep.bind0 rfl (Ep.pos (by omega) (Ep.pos (by simp; omega) ?_))))
  exact specBurn_l0 g d hd n [q] _ (by simp; omega) .start (BRep.start hq.1 hq.2)
theorem implBurn_l2 {n : Nat} {es : List E} {q : Int} (g : Gr n es q) (d : List Int) (hd : d.length = n) (b : List Int) (hok : b.Nodup ∧ ∀ v ∈ b, 0 ≤ v ∧ v < n) (hbl : b.length ≤ n) (v : Nat) (hv : v < n) {Q : List Int → Prop}
    (hk : Ep (fun k => impl_burn.l1 k d b (if (v : Int) ∉ b ∧ rd d v < burnSum es b v then (v : Int) else -1) ((v + 1 : Nat) : Int) (n : Int) es) Q) :
    ∀ (dd i : Nat), i + dd = b.length → Ep (fun k => impl_burn.l2 k d b (-1) (v : Int) (burnSum es (b.take i) v) b (b.length : Int) (i : Int) (n : Int) es) Q := by
  have hn := g.n6
  have hel := g.hel
  intro dd
  induction dd with
  | zero =>
    intro i hi
    rw [List.take_of_length_le (by omega)]
    refine Ep.up ?_
    simp only [impl_burn.l2]
    have hw := wrap_succ (i := v) (by omega)
    rw [hw]
    refine Ep.neg (by omega) ?_
    refine Ep.bind (contains_ok b v (by omega)) ?_
    rintro _ rfl
    refine Ep.ite (fun h => ?_) (fun h => ?_)
    · have h' : (v : Int) ∈ b := by simpa using h
      rw [if_neg (fun y => y.1 h')] at hk
      exact hk
    · have h' : (v : Int) ∉ b := by simpa using h
      refine Ep.pos (by omega) (Ep.pos (by omega) (Ep.ite (fun h2 => ?_) (fun h2 => ?_)))
      · rw [if_pos ⟨h', h2⟩] at hk
        exact hk
      · rw [if_neg (fun y => h2 y.2)] at hk
        exact hk
  | succ dd ih =>
    intro i hi
    have hlt : i < b.length := by omega
    have hbi := hok.2 _ (List.getElem_mem hlt)
    have hb := burnSum_bd hel v (b.take i)
    have hml := mult_le es v b[i]
    have hm0 := mult_nonneg es v b[i]
    rw [List.length_take] at hb
    have e : burnSum es (b.take (i + 1)) v = burnSum es (b.take i) v + mult es v b[i] := by
      unfold burnSum
      rw [List.take_succ_eq_append_getElem hlt, List.map_append, List.sum_append]
      simp
    have ih' := ih (i + 1) (by omega)
    rw [e] at ih'
    refine Ep.up ?_
    simp only [impl_burn.l2]
    refine Ep.pos (by omega) (Ep.pos (by omega) (Ep.pos (by omega) ?_))
    rw [rd_get hlt, wrap_succ (by omega)]
    refine Ep.bind (implMult n es g.hes hel v b[i] (by omega) hbi) ?_
    rintro _ rfl
    rw [wrap_id (by omega) (by omega)]
    exact ih'
theorem implBurn_l1 {n : Nat} {es : List E} {q : Int} (g : Gr n es q) (d : List Int) (hd : d.length = n) (b : List Int) (hok : b.Nodup ∧ ∀ v ∈ b, 0 ≤ v ∧ v < n) (hbl : b.length ≤ n) {Q : List Int → Prop}
    (hk : Ep (fun k => if nextB es (rd d) b n 0 < 0 then some b else (if b.length < 17592186044416 then impl_burn.l0 k d (b ++ [nextB es (rd d) b n 0]) (n : Int) es else none)) Q) :
    ∀ (dd i : Nat), i + dd = n → nextB es (rd d) b n 0 = nextB es (rd d) b dd i → Ep (fun k => impl_burn.l1 k d b (-1) (i : Int) (n : Int) es) Q := by
  have hn := g.n6
  intro dd
  induction dd with
  | zero =>
    intro i hi he
    rw [he] at hk
    simp only [nextB] at hk
    refine Ep.up ?_
    simp only [impl_burn.l1]
    refine Ep.neg (by omega) (Ep.up ?_)
    simp only [impl_burn.j2]
    exact Ep.neg (by simp) hk
  | succ dd ih =>
    intro i hi he
    refine Ep.up ?_
    simp only [impl_burn.l1]
    refine Ep.pos (by omega) (Ep.up ?_)
    simp only [impl_burn.j2]
    refine Ep.pos (by simp) ?_
    have h2 := implBurn_l2 (Q := Q) g d hd b hok hbl i (by omega) ?_ b.length 0 (by omega)
    · simpa [burnSum] using h2
    · replace he : nextB es (rd d) b n 0 = (if (i : Int) ∉ b ∧ rd d i < burnSum es b i then (i : Int) else nextB es (rd d) b dd (i + 1)) := he
      by_cases h : (i : Int) ∉ b ∧ rd d i < burnSum es b i
      · rw [if_pos h] at he ⊢
        rw [he] at hk
        refine Ep.up ?_
        simp only [impl_burn.l1]
        refine Ep.ite (fun _ => ?_) (fun _ => ?_)
        · refine Ep.up ?_
          simp only [impl_burn.j2]
          exact Ep.neg (by simp) hk
        · refine Ep.up ?_
          simp only [impl_burn.j2]
          exact Ep.neg (by simp) hk
      · rw [if_neg h] at he ⊢
        exact ih (i + 1) (by omega) he
theorem implBurn_l0 {n : Nat} {es : List E} {q : Int} (g : Gr n es q) (d : List Int) (hd : d.length = n) : ∀ (k : Nat) (b : List Int), n + 1 ≤ b.length + k → Burn n es (rd d) q b → Ep (fun f => impl_burn.l0 f d b (n : Int) es) (· = burnW n es (rd d) k b) := by
  have hn := g.n6
  intro k
  induction k with
  | zero =>
    intro b hl hb
    have := hb.len g.hq
    omega
  | succ k ih =>
    intro b hl hb
    have hok := hb.ok g.hq
    have hlen := hb.len g.hq
    refine Ep.up ?_
    simp only [impl_burn.l0]
    refine implBurn_l1 (Q := (· = burnW n es (rd d) (k + 1) b)) g d hd b ⟨hok.1, hok.2.1⟩ hlen ?_ n 0 (by omega) rfl
    unfold burnW
    have hnx := nextB_ok es (rd d) b n 0
    generalize nextB es (rd d) b n 0 = v at hnx ⊢
    refine Ep.ite (fun h => Ep.now ?_) (fun h => ?_)
    · rw [if_pos h]
    · rw [if_neg h]
      rcases hnx with ⟨h2, _⟩ | ⟨h2, h3, h4, h5⟩
      · omega
      · exact Ep.pos (by omega) (ih _ (by simp; omega) (hb.step (by omega) (by omega) h4 h5))
theorem implBurn {n : Nat} {es : List E} {q : Int} (g : Gr n es q) (d : List Int) (hd : d.length = n) : Ep (fun k => impl_burn.f k (n : Int) es d q) (· = burnF n es (rd d) q) := by
  have hn := g.n6
  simp only [impl_burn.f]
  exact implBurn_l0 g d hd n [q] (by simp; omega) .start
end Go.Proofs.Ytnbljcgdgblgoaa.Cf
end

section
namespace Go.Proofs.Ytnbljcgdgblgoaa.Cf
set_option linter.unusedVariables false
set_option linter.unusedSimpArgs false
open Go.RowKit Go.Proofs.YtnbljcgdgblgoaaW.PrintWords
/-- g 0 - g 1 + g 2 - .. (n terms). -/
def alt : Nat → (Nat → Int) → Int
  | 0, _ => 0
  | n + 1, g => g 0 - alt n fun i => g (i + 1)
theorem alt_congr : ∀ {n : Nat} {f g : Nat → Int}, (∀ i, i < n → f i = g i) → alt n f = alt n g
  | 0, _, _, _ => rfl
  | n + 1, f, g, h => by
    unfold alt
    rw [h 0 (by omega), alt_congr (n := n) (f := fun i => f (i + 1)) (g := fun i => g (i + 1)) fun i hi => h (i + 1) (by omega)]
theorem alt_bd {n : Nat} {g : Nat → Int} {C : Int} (h : ∀ i, i < n → -C ≤ g i ∧ g i ≤ C) : -(n * C) ≤ alt n g ∧ alt n g ≤ n * C := by
  induction n generalizing g with
  | zero => simp [alt]
  | succ n ih =>
    have h0 := h 0 (by omega)
    have h1 := ih (g := fun i => g (i + 1)) fun i hi => h (i + 1) (by omega)
    unfold alt
    have e : ((n + 1 : Nat) : Int) * C = n * C + C := by rw [Int.natCast_add, Int.add_mul]; simp
    omega
/-- The entry of a matrix. -/
def ent (M : List (List Int)) (r c : Int) : Int := rd (M.getD r.toNat []) c
/-- The determinant of some rows and columns, by the first row. -/
def detL (M : List (List Int)) : List Int → List Int → Int
  | [], _ => 1
  | r :: rs, cs => alt cs.length fun i => ent M r (cs.getD i 0) * detL M rs (cs.eraseIdx i)
theorem mul_bd {a b A B : Int} (ha : -A ≤ a ∧ a ≤ A) (hb : -B ≤ b ∧ b ≤ B) : -(A * B) ≤ a * b ∧ a * b ≤ A * B := by
  have hA : 0 ≤ A := by omega
  have h1 : a.natAbs * b.natAbs ≤ A.natAbs * B.natAbs := Nat.mul_le_mul (by omega) (by omega)
  rw [← Int.natAbs_mul, ← Int.natAbs_mul] at h1
  have h2 : 0 ≤ A * B := Int.mul_nonneg (by omega) (by omega)
  omega
theorem detL_bd {M : List (List Int)} {B : Int} (hB : 0 ≤ B) (hM : ∀ r c, -B ≤ ent M r c ∧ ent M r c ≤ B) : ∀ (rs cs : List Int), cs.length ≤ 6 → -((6 * B) ^ rs.length) ≤ detL M rs cs ∧ detL M rs cs ≤ (6 * B) ^ rs.length
  | [], cs, _ => by simp [detL]
  | r :: rs, cs, hc => by
    have h := alt_bd (n := cs.length) (g := fun i => ent M r (cs.getD i 0) * detL M rs (cs.eraseIdx i)) (C := B * (6 * B) ^ rs.length) fun i hi =>
      mul_bd (hM _ _) (detL_bd hB hM rs (cs.eraseIdx i) (by have := List.length_eraseIdx_le cs i; omega))
    have hp : 0 ≤ B * (6 * B) ^ rs.length := Int.mul_nonneg hB (Int.pow_nonneg (by omega))
    have e : (6 * B) ^ (r :: rs).length = 6 * (B * (6 * B) ^ rs.length) := by
      rw [List.length_cons, Int.pow_succ, Int.mul_comm, Int.mul_assoc]
    have h6 : (cs.length : Int) * (B * (6 * B) ^ rs.length) ≤ 6 * (B * (6 * B) ^ rs.length) := Int.mul_le_mul_of_nonneg_right (by omega) hp
    rw [e]
    unfold detL
    omega
abbrev Col := Int → Int
def z0 : Col := fun _ => 0
def detC : List Int → List Col → Int
  | [], _ => 1
  | r :: rs, cs => alt cs.length fun i => (cs.getD i z0) r * detC rs (cs.eraseIdx i)
end Go.Proofs.Ytnbljcgdgblgoaa.Cf
end

section
namespace Go.Proofs.Ytnbljcgdgblgoaa.Cf
set_option linter.unusedVariables false
set_option linter.unusedSimpArgs false
open Go.RowKit Go.Proofs.YtnbljcgdgblgoaaW.PrintWords Go.Proofs.Ytnbljcgdgblgoaa.P
/-- The set bits below i. -/
def bitsB (m i : Nat) : List Int := ((List.range i).filter fun j => m.testBit j).map fun j : Nat => (j : Int)
def bitsL (m : Nat) : List Int := bitsB m 6
theorem bm_on : ∀ (m : Fin 64) (i : Fin 7), (shr .i64 (m.val : Int) (i.val : Int) > 0 ∧ i.val < 6) ∨ (¬ shr .i64 (m.val : Int) (i.val : Int) > 0 ∧ bitsB m.val i.val = bitsL m.val) := by decide
theorem bm_val : ∀ (m : Fin 64) (i : Fin 6), (Go.bits .and .i64 (shr .i64 (m.val : Int) (i.val : Int)) 1 = 1 ∧ m.val.testBit i.val = true) ∨ (Go.bits .and .i64 (shr .i64 (m.val : Int) (i.val : Int)) 1 = 0 ∧ m.val.testBit i.val = false) := by decide
theorem bitsB_succ (m i : Nat) : bitsB m (i + 1) = bitsB m i ++ (if m.testBit i then [(i : Int)] else []) := by
  unfold bitsB
  rw [List.range_succ, List.filter_append, List.map_append]
  congr 1
  by_cases c : m.testBit i = true
  · rw [if_pos c, List.filter_cons_of_pos (by simpa using c)]; rfl
  · rw [if_neg c, List.filter_cons_of_neg (by simpa using c)]; rfl
theorem bitsB_len (m i : Nat) : (bitsB m i).length ≤ i := by
  unfold bitsB
  rw [List.length_map]
  exact Nat.le_trans (List.length_filter_le _ _) (by simp)
set_option maxRecDepth 100000 in
theorem bm_drop : ∀ (m : Fin 64) (i : Fin 6), m.val.testBit i.val = true → ∃ m' : Fin 64, Go.bits .andNot .i64 (m.val : Int) (shl .i64 1 (i.val : Int)) = (m'.val : Int) ∧ bitsL m'.val = (bitsL m.val).eraseIdx (bitsB m.val i.val).length ∧ (bitsL m.val)[(bitsB m.val i.val).length]? = some (i.val : Int) ∧ m'.val ≤ m.val := by decide
theorem bm_all : ∀ (m : Fin 64) (i : Fin 7), m.val < 2 ^ i.val → bitsB m.val i.val = bitsL m.val := by decide
theorem bm_full0 : ∀ i : Fin 7, bitsL (2 ^ i.val - 1) = (List.range i.val).map (fun j : Nat => (j : Int)) ∧ shl .i64 1 (i.val : Int) = ((2 ^ i.val : Nat) : Int) ∧ (2 ^ i.val - 1 : Nat) < 64 ∧ 0 < 2 ^ i.val := by decide
theorem bm_full {i : Nat} (hi : i < 7) : bitsL (2 ^ i - 1) = (List.range i).map (fun j : Nat => (j : Int)) ∧ wrap64 (shl .i64 1 (i : Int) - 1) = ((2 ^ i - 1 : Nat) : Int) ∧ shl .i64 1 (i : Int) = ((2 ^ i : Nat) : Int) ∧ (2 ^ i - 1 : Nat) < 64 := by
  obtain ⟨h1, h2, h3, h4⟩ := bm_full0 ⟨i, hi⟩
  simp only at h1 h2 h3 h4
  refine ⟨h1, ?_, h2, h3⟩
  rw [h2, wrap_id (by omega) (by omega)]
  omega
theorem implBits_l0 {m : Nat} (hm : m < 64) : ∀ (d i : Nat), i + d = 6 → Ep (fun k => impl_bitsOf.l0 k (m : Int) (bitsB m i) (i : Int)) (· = bitsL m) := by
  intro d
  induction d with
  | zero =>
    intro i hi
    refine Ep.up ?_
    simp only [impl_bitsOf.l0]
    rcases bm_on ⟨m, hm⟩ ⟨i, by omega⟩ with ⟨_, h⟩ | ⟨h1, h2⟩
    · exact absurd h (by simp; omega)
    · exact Ep.pos (by omega) (Ep.neg h1 (Ep.now h2))
  | succ d ih =>
    intro i hi
    have h := ih (i + 1) (by omega)
    rw [bitsB_succ] at h
    refine Ep.up ?_
    simp only [impl_bitsOf.l0]
    rcases bm_on ⟨m, hm⟩ ⟨i, by omega⟩ with ⟨h1, _⟩ | ⟨h1, h2⟩
    · refine Ep.pos (by omega) (Ep.pos h1 ?_)
      rw [wrap_succ (by omega)]
      rcases bm_val ⟨m, hm⟩ ⟨i, by omega⟩ with ⟨b1, b2⟩ | ⟨b1, b2⟩
      · rw [if_pos b2] at h
        exact Ep.pos b1 (Ep.pos (by have := bitsB_len m i; omega) h)
      · have b1' : Go.bits .and .i64 (shr .i64 (m : Int) (i : Int)) 1 = 0 := b1
        rw [if_neg (by simpa using b2), List.append_nil] at h
        exact Ep.neg (by rw [b1']; omega) h
    · exact Ep.pos (by omega) (Ep.neg h1 (Ep.now h2))
theorem implBits {m : Nat} (hm : m < 64) : Ep (fun k => impl_bitsOf.f k (m : Int)) (· = bitsL m) := implBits_l0 hm 6 0 rfl
end Go.Proofs.Ytnbljcgdgblgoaa.Cf
end

section
namespace Go.Proofs.Ytnbljcgdgblgoaa.Cf
set_option linter.unusedVariables false
set_option linter.unusedSimpArgs false
open Go.RowKit Go.Proofs.YtnbljcgdgblgoaaW.PrintWords
def lapM (es : List E) (r c : Int) : Int := if r = c then val es r else - mult es r c
def dlap (es : List E) (vs : List Int) : Int := detC vs (vs.map fun c r => lapM es r c)
theorem getD_map {α β : Type} (f : α → β) (l : List α) (i : Nat) (d : α) (d' : β) (h : i < l.length) : (l.map f).getD i d' = f (l.getD i d) := by
  rw [List.getD_eq_getElem?_getD, List.getElem?_map, List.getD_eq_getElem?_getD, List.getElem?_eq_getElem h]
  rfl
theorem getD_mem {α : Type} {l : List α} {i : Nat} (d : α) (h : i < l.length) : l.getD i d ∈ l := by
  rw [List.getD_eq_getElem?_getD, List.getElem?_eq_getElem h]
  exact List.getElem_mem h
theorem map_eraseIdx {α β : Type} (f : α → β) (l : List α) (i : Nat) : (l.map f).eraseIdx i = (l.eraseIdx i).map f := by
  apply List.ext_getElem?
  intro k
  simp only [List.getElem?_eraseIdx, List.getElem?_map]
  split <;> rfl
end Go.Proofs.Ytnbljcgdgblgoaa.Cf
end

section
namespace Go.Proofs.Ytnbljcgdgblgoaa.P
open Go.RowKit Go.Proofs.YtnbljcgdgblgoaaW.PrintWords Go.Proofs.YtnbljcgdgblgoaaW.PrintLast Go.Proofs.YtnbljcgdgblgoaaW.PrintMore
attribute [local go_sem] max2_int min2_int max_two min_two max_three min_three max_four min_four
set_option linter.unusedVariables false
set_option linter.unusedSimpArgs false
def impl_sumOf.l0 : Nat → Int → List Int → Int → Int → Option (Int)
 | 0, _, _, _, _ => none
 | k + 1, x3, x6, x7, x8 => if x8 < x7 then (if 0 ≤ x8 then (if x8 < (x6.length : Int) then (impl_sumOf.l0 k (wrap64 (x3 + (rd x6 x8))) x6 x7 (wrap64 (x8 + 1))) else (none)) else (none)) else (some x3)
def impl_sumOf.f (k : Nat) (l0 : List Int) : Option (Int) := impl_sumOf.l0 k 0 l0 (l0.length : Int) 0
theorem impl_sumOf.mono_l : ∀ k, (∀ y0 y1 y2 y3, LeO (impl_sumOf.l0 k y0 y1 y2 y3) (impl_sumOf.l0 (k + 1) y0 y1 y2 y3))
 | 0 => fun _ _ _ _ r h => by simp [impl_sumOf.l0] at h
 | k + 1 => by
  have ih0 := impl_sumOf.mono_l k
  ·intro y0 y1 y2 y3
   unfold impl_sumOf.l0
   exact zm0
theorem impl_sumOf.mono : ∀ a0 k, LeO (impl_sumOf.f k a0) (impl_sumOf.f (k + 1) a0) := by
 intro a0 k; have ih0 := impl_sumOf.mono_l k; unfold impl_sumOf.f; exact zm0
set_option maxHeartbeats 8000000 in
set_option maxRecDepth 100000 in
theorem impl_sumOf.calls (k : Nat) (A0 : Option Addr) (c0 : Nat) (l0 : List Int) (r : Int) (w : World) (hr0 : Kd.C (Kd.int .i64) w A0 l0.length l0) (hc0 : l0.length ≤ c0) (h : impl_sumOf.f k l0 = some r) :
  Calls Try.prog 64 #[.slice A0 l0.length c0] w fun e w' => e = .returned (.int .i64 r) ∧ Drawn0 w w' := by
 have HR0 := Aside0.mk hr0; have HC0 := Aside0.mk hc0; clear hr0 hc0; have H : (impl_sumOf.l0 k 0 l0 (l0.length : Int) 0) = some r := h; clear h; have H' := Aside0.mk H; clear H; go_enter Try.func64, Try.ntmps64; go_wp2; (go_loopg [3, 8] k (fun kq v3 v8 w' => ∃ (x3_1 : Int) (x8_1 : Int), v3 = .int .i64 x3_1 ∧ v8 = .int .i64 x8_1 ∧ Aside0 (impl_sumOf.l0 kq x3_1 l0 (l0.length : Int) x8_1 = some r) ∧ Aside0 (kq ≤ k) ∧ Drawn0 w w')); case atStart => exact ⟨(0), (0), zz5, zz5, H', ⟨Nat.le_refl _⟩, by repeat (first | exact Drawn0.refl _ | apply Drawn0.step)⟩
 case round =>
  clear H'; obtain ⟨x3_1, x8_1, rfl, rfl, HA, HK1, ⟨m1, rfl⟩⟩ := hrel
  cases gk with
  | zero => exact absurd HA.out (by simp [impl_sumOf.l0])
  | succ k1 =>
   have H := HA.out; clear HA; simp only [impl_sumOf.l0] at H; by_cases c2 : x8_1 < (l0.length : Int); rotate_left
   ·rw [if_neg c2] at H; have c2b0 := decide_eq_false c2; clear c2; obtain rfl := Option.some.inj H; go_wp2; go_ret; exact ⟨zz5, by repeat (first | exact Drawn0.refl _ | apply Drawn0.step)⟩
   rw [if_pos c2] at H; have c2b0 := decide_eq_true c2; clear c2; by_cases c3 : 0 ≤ x8_1; rotate_left
   ·rw [if_neg c3] at H; exact absurd H (by simp)
   rw [if_pos c3] at H; have c3b0 := decide_eq_true c3; clear c3; by_cases c4 : x8_1 < (l0.length : Int); rotate_left
   ·rw [if_neg c4] at H; exact absurd H (by simp)
   rw [if_pos c4] at H; have c4b0 := decide_eq_true c4; clear c4; have H' := Aside0.mk H; clear H; have p101 : 0 ≤ (x8_1 : Int) := of_decide_eq_true zz3; have q101 : x8_1 < (l0.length : Int) := of_decide_eq_true zz3; obtain ⟨ad101, e101, hx101_0⟩ := Kd.at_int HR0.out x8_1 p101 q101; cases e101; replace p101 := eq_true p101; replace q101 := eq_true q101; go_wp2; go_roundg k1; (case measure => have := HK1.out; omega); case rel => exact ⟨(wrap64 (x3_1 + (rd l0 x8_1))), (wrap64 (x8_1 + 1)), zz5, zz5, H', ⟨zz36⟩, by repeat (first | exact Drawn0.refl _ | apply Drawn0.step)⟩
def spec_DegreeOf.l0 : Nat → Int → List Int → Int → Int → Option (Int)
 | 0, _, _, _, _ => none
 | k + 1, x3, x6, x7, x8 => if x8 < x7 then (if 0 ≤ x8 then (if x8 < (x6.length : Int) then (spec_DegreeOf.l0 k (wrap64 (x3 + (rd x6 x8))) x6 x7 (wrap64 (x8 + 1))) else (none)) else (none)) else (some x3)
def spec_DegreeOf.f (k : Nat) (l0 : List Int) : Option (Int) := spec_DegreeOf.l0 k 0 l0 (l0.length : Int) 0
theorem spec_DegreeOf.mono_l : ∀ k, (∀ y0 y1 y2 y3, LeO (spec_DegreeOf.l0 k y0 y1 y2 y3) (spec_DegreeOf.l0 (k + 1) y0 y1 y2 y3))
 | 0 => fun _ _ _ _ r h => by simp [spec_DegreeOf.l0] at h
 | k + 1 => by
  have ih0 := spec_DegreeOf.mono_l k
  ·intro y0 y1 y2 y3
   unfold spec_DegreeOf.l0
   exact zm0
theorem spec_DegreeOf.mono : ∀ a0 k, LeO (spec_DegreeOf.f k a0) (spec_DegreeOf.f (k + 1) a0) := by
 intro a0 k; have ih0 := spec_DegreeOf.mono_l k; unfold spec_DegreeOf.f; exact zm0
set_option maxHeartbeats 8000000 in
set_option maxRecDepth 100000 in
theorem spec_DegreeOf.calls (k : Nat) (A0 : Option Addr) (c0 : Nat) (l0 : List Int) (r : Int) (w : World) (hr0 : Kd.C (Kd.int .i64) w A0 l0.length l0) (hc0 : l0.length ≤ c0) (h : spec_DegreeOf.f k l0 = some r) :
  Calls Try.prog 72 #[.slice A0 l0.length c0] w fun e w' => e = .returned (.int .i64 r) ∧ Drawn0 w w' := by
 have HR0 := Aside0.mk hr0; have HC0 := Aside0.mk hc0; clear hr0 hc0; have H : (spec_DegreeOf.l0 k 0 l0 (l0.length : Int) 0) = some r := h; clear h; have H' := Aside0.mk H; clear H; go_enter Try.func72, Try.ntmps72; go_wp2; (go_loopg [3, 8] k (fun kq v3 v8 w' => ∃ (x3_1 : Int) (x8_1 : Int), v3 = .int .i64 x3_1 ∧ v8 = .int .i64 x8_1 ∧ Aside0 (spec_DegreeOf.l0 kq x3_1 l0 (l0.length : Int) x8_1 = some r) ∧ Aside0 (kq ≤ k) ∧ Drawn0 w w')); case atStart => exact ⟨(0), (0), zz5, zz5, H', ⟨Nat.le_refl _⟩, by repeat (first | exact Drawn0.refl _ | apply Drawn0.step)⟩
 case round =>
  clear H'; obtain ⟨x3_1, x8_1, rfl, rfl, HA, HK1, ⟨m1, rfl⟩⟩ := hrel
  cases gk with
  | zero => exact absurd HA.out (by simp [spec_DegreeOf.l0])
  | succ k1 =>
   have H := HA.out; clear HA; simp only [spec_DegreeOf.l0] at H; by_cases c2 : x8_1 < (l0.length : Int); rotate_left
   ·rw [if_neg c2] at H; have c2b0 := decide_eq_false c2; clear c2; obtain rfl := Option.some.inj H; go_wp2; go_ret; exact ⟨zz5, by repeat (first | exact Drawn0.refl _ | apply Drawn0.step)⟩
   rw [if_pos c2] at H; have c2b0 := decide_eq_true c2; clear c2; by_cases c3 : 0 ≤ x8_1; rotate_left
   ·rw [if_neg c3] at H; exact absurd H (by simp)
   rw [if_pos c3] at H; have c3b0 := decide_eq_true c3; clear c3; by_cases c4 : x8_1 < (l0.length : Int); rotate_left
   ·rw [if_neg c4] at H; exact absurd H (by simp)
   rw [if_pos c4] at H; have c4b0 := decide_eq_true c4; clear c4; have H' := Aside0.mk H; clear H; have p101 : 0 ≤ (x8_1 : Int) := of_decide_eq_true zz3; have q101 : x8_1 < (l0.length : Int) := of_decide_eq_true zz3; obtain ⟨ad101, e101, hx101_0⟩ := Kd.at_int HR0.out x8_1 p101 q101; cases e101; replace p101 := eq_true p101; replace q101 := eq_true q101; go_wp2; go_roundg k1; (case measure => have := HK1.out; omega); case rel => exact ⟨(wrap64 (x3_1 + (rd l0 x8_1))), (wrap64 (x8_1 + 1)), zz5, zz5, H', ⟨zz36⟩, by repeat (first | exact Drawn0.refl _ | apply Drawn0.step)⟩
mutual
def spec_FullPile.j0 : Nat → Int → Bool → Int → List (S57) → Option (List Int)
 | 0, _, _, _, _ => none
 | k + 1, x1, x17, x102000, x102001 => if x17 = true then (some ([] : List Int)) else (spec_FullPile.l0 k x1 (([] : List Int)) 0 x102000 x102001)
def spec_FullPile.l0 : Nat → Int → List Int → Int → Int → List (S57) → Option (List Int)
 | 0, _, _, _, _, _ => none
 | k + 1, x1, x5, x6, x102000, x102001 => if x6 < x102000 then (if x6 = x1 then (if x5.length < 17592186044416 then (spec_FullPile.l0 k x1 (x5 ++ [0]) (wrap64 (x6 + 1)) x102000 x102001) else (none)) else ((spec_Valence.f k x102000 x102001 x6).bind fun t110 => (if x5.length < 17592186044416 then (spec_FullPile.l0 k x1 (x5 ++ [wrap64 (t110 - 1)]) (wrap64 (x6 + 1)) x102000 x102001) else (none)))) else (some x5)
end
def spec_FullPile.f (k : Nat) (a0_0 : Int) (l0_1 : List (S57)) (a1 : Int) : Option (List Int) := (spec_GraphOk.f k a0_0 l0_1).bind fun t102 => (if t102 = true then ((spec_l01In.f a1 0 (wrap64 (a0_0 - 1))).bind fun t103 => (spec_FullPile.j0 k a1 (!t103) a0_0 l0_1)) else (spec_FullPile.j0 k a1 true a0_0 l0_1))
theorem spec_FullPile.mono_l : ∀ k, (∀ y0 y1 y2 y3, LeO (spec_FullPile.j0 k y0 y1 y2 y3) (spec_FullPile.j0 (k + 1) y0 y1 y2 y3)) ∧ (∀ y0 y1 y2 y3 y4, LeO (spec_FullPile.l0 k y0 y1 y2 y3 y4) (spec_FullPile.l0 (k + 1) y0 y1 y2 y3 y4))
 | 0 => ⟨fun _ _ _ _ r h => by simp [spec_FullPile.j0] at h, fun _ _ _ _ _ r h => by simp [spec_FullPile.l0] at h⟩
 | k + 1 => by
  obtain ⟨ih0, ih1⟩ := spec_FullPile.mono_l k
  refine ⟨?_, ?_⟩
  ·intro y0 y1 y2 y3
   unfold spec_FullPile.j0
   exact zm9
  ·intro y0 y1 y2 y3 y4
   unfold spec_FullPile.l0
   exact zm9
theorem spec_FullPile.mono : ∀ a0 a1 a2 k, LeO (spec_FullPile.f k a0 a1 a2) (spec_FullPile.f (k + 1) a0 a1 a2) := by
 intro a0 a1 a2 k; obtain ⟨ih0, ih1⟩ := spec_FullPile.mono_l k; unfold spec_FullPile.f; exact zm9
set_option maxHeartbeats 8000000 in
set_option maxRecDepth 100000 in
theorem spec_FullPile.calls (k : Nat) (a0_0 : Int) (A0_1 : Option Addr) (c0_1 : Nat) (l0_1 : List (S57)) (a1 : Int) (r : List Int) (w : World) (hr0_1 : Kd.C k57 w A0_1 l0_1.length l0_1) (hc0_1 : l0_1.length ≤ c0_1) (h : spec_FullPile.f k a0_0 l0_1 a1 = some r) :
  Calls Try.prog 102 #[.agg #[.int .i64 a0_0, .slice A0_1 l0_1.length c0_1], .int .i64 a1] w fun e w' => ∃ v0_ : Value, e = .returned (v0_) ∧ Kd.R (Kd.int .i64) 3 w' w.heap.size (fun _ => True) v0_ r ∧ Below w.heap.size w w' := by
 have hu25 := Try.underlying25; have HR0_1 := Aside0.mk hr0_1; have HC0_1 := Aside0.mk hc0_1; clear hr0_1 hc0_1; have HB := Aside0.mk (Below.refl w.heap.size w); have H : ((spec_GraphOk.f k a0_0 l0_1).bind fun t102 => (if t102 = true then ((spec_l01In.f a1 0 (wrap64 (a0_0 - 1))).bind fun t103 => (spec_FullPile.j0 k a1 (!t103) a0_0 l0_1)) else (spec_FullPile.j0 k a1 true a0_0 l0_1))) = some r := h; clear h; have HC3 := Aside0.mk H; clear H; go_enter Try.func102, Try.ntmps102; (go_upto_region 1 with (first | ((with_reducible refine gate_dst (N := 2) rfl ?_); refine box_event ?hg (N := 2) ?hd (cs := #[.int .i64 a0_0, .slice A0_1 l0_1.length c0_1]) (t := 25) ?hr ?_; (case hd => rfl); (case hg => rfl); (case hr => exact zz9); intro gb101 hg w4 hbox hb; have n_ := zA4 (below_step zz1 hb) hbox (zz10 : w.heap.size ≤ gb101) (zz10 : w.heap.size ≤ gb101); clear HB; obtain ⟨HB, BK101, GW101, GE101⟩ := n_; clear hb hbox hg))); (try simp only [Act.put, List.setIfInBounds_toArray, List.set_cons_zero, List.set_cons_succ]); go_cut [17] (fun v17 wc => ∃ (kq : Nat) (x17_2 : Bool), v17 = .bool x17_2 ∧ Aside0 (spec_FullPile.j0 kq a1 x17_2 a0_0 l0_1 = some r) ∧ Aside0 (kq ≤ k) ∧ Aside0 (wc.heap[gb101]? = some (.cells #[.int .i64 a0_0, (.slice A0_1 l0_1.length c0_1)] 25 (0, 0))) ∧ Aside0 (Below w.heap.size w wc))
 case first =>
  have H := HC3.out; clear HC3; replace H := Option.bind_eq_some_iff.mp H; obtain ⟨t102, A50, H⟩ := H; (try dsimp only at H); have A5 := Aside0.mk A50; clear A50; by_cases c6 : t102 = true; rotate_left
  ·replace c6 := Bool.eq_false_iff.mpr c6; subst c6; rw [if_neg (show ¬ (false = true) by decide)] at H; have H' := Aside0.mk H; clear H; have hcz11_0 := zC20 BK101; have hcz11_1 := zC21 BK101; have hfz11_0 := blk_frozen BK101.out 0; have hfz11_1 := blk_frozen BK101.out 1; (go_wp2_with (first | ((with_reducible refine gate_callee (f := 55) rfl ?_); refine goesL_ (some 8) rfl rfl Try.func55 (by kernel_rfl) rfl #[.agg #[.int .i64 a0_0, .slice A0_1 l0_1.length c0_1]] rfl zz4 ?_; (with_reducible refine (spec_GraphOk.calls k a0_0 _ _ l0_1 false _ ?side1 ?side2 A5.out).mono ?_); (case side1 => exact zz6); (case side2 => exact HC0_1.out); rintro e w12 ⟨rfl, hb⟩; refine ⟨_, rfl, ?_⟩; have n_ := zA2 (blk_below (g := gb101) (o := .cells #[.int .i64 a0_0, .slice A0_1 l0_1.length c0_1] 25 (0, 0)) zz2 hb) (below_step zz0 hb); clear BK101 HB; obtain ⟨BK101, HB⟩ := n_; clear hb))); (go_meet); case rel => exact ⟨_, (true), zz5, H', ⟨by first | omega | exact Nat.le_refl _⟩, ⟨zz2⟩, ⟨zz0⟩⟩
  subst c6; rw [if_pos rfl] at H; replace H := Option.bind_eq_some_iff.mp H; obtain ⟨t103, A70, H⟩ := H; (try dsimp only at H); have A7 := Aside0.mk A70; clear A70; have H' := Aside0.mk H; clear H; have hcz8_0 := zC20 BK101; have hcz8_1 := zC21 BK101; have hfz8_0 := blk_frozen BK101.out 0; have hfz8_1 := blk_frozen BK101.out 1; (go_wp2_with (first | ((with_reducible refine gate_callee (f := 55) rfl ?_); refine goesL_ (some 8) rfl rfl Try.func55 (by kernel_rfl) rfl #[.agg #[.int .i64 a0_0, .slice A0_1 l0_1.length c0_1]] rfl zz4 ?_; (with_reducible refine (spec_GraphOk.calls k a0_0 _ _ l0_1 true _ ?side1 ?side2 A5.out).mono ?_); (case side1 => exact zz6); (case side2 => exact HC0_1.out); rintro e w9 ⟨rfl, hb⟩; refine ⟨_, rfl, ?_⟩; have n_ := zA2 (blk_below (g := gb101) (o := .cells #[.int .i64 a0_0, .slice A0_1 l0_1.length c0_1] 25 (0, 0)) zz2 hb) (below_step zz0 hb); clear BK101 HB; obtain ⟨BK101, HB⟩ := n_; clear hb; have hcz10_0 := zC20 BK101; have hcz10_1 := zC21 BK101; have hfz10_0 := blk_frozen BK101.out 0; have hfz10_1 := blk_frozen BK101.out 1) | (go_at_call 56; (with_reducible refine (spec_l01In.calls a1 0 (wrap64 (a0_0 - 1)) t103 _ A7.out).mono ?_); rintro e w' ⟨rfl, ⟨nd, rfl⟩⟩))); (go_meet); case rel => exact ⟨_, (!t103), zz5, H', ⟨by first | omega | exact Nat.le_refl _⟩, ⟨zz2⟩, ⟨zz0⟩⟩
 case rest =>
  clear HC3; (try clear c1); (try clear p2); (try clear c5); (try clear c6); (try clear p6); (try clear c10); (try clear hcz10_0); (try clear hcz10_1); (try clear hcz11_0); (try clear hcz11_1); (try clear hcz8_0); (try clear hcz8_1); (try clear hfz10_0); (try clear hfz10_1); (try clear hfz11_0); (try clear hfz11_1); (try clear hfz8_0); (try clear hfz8_1); obtain ⟨kq, x17_2, rfl, HA, HJ2, BK101, HB⟩ := hcut
  cases kq with
  | zero => exact absurd HA.out (by simp [spec_FullPile.j0])
  | succ kj2 =>
   have H := HA.out; clear HA; simp only [spec_FullPile.j0] at H; by_cases c13 : x17_2 = true
   ·subst c13; rw [if_pos rfl] at H; obtain rfl := Option.some.inj H; go_wp2; go_ret; exact ⟨_, zz7, zz42, zz0⟩
   replace c13 := Bool.eq_false_iff.mpr c13; subst c13; rw [if_neg (show ¬ (false = true) by decide)] at H; obtain ⟨y104, hy_⟩ : ∃ y_ : List Int, y_ = (([] : List Int)) := ⟨_, rfl⟩; (replace H : (spec_FullPile.l0 kj2 a1 y104 0 a0_0 l0_1) = some r := zzY); have Ny104 := Aside0.mk hy_; clear hy_; have H' := Aside0.mk H; clear H; (go_wp2_with (first | ((with_reducible refine gate_dst (N := 18) rfl ?_); refine Kd.R_lit (Kd.int .i64) _ 3 ?hg (N := 18) ?hd (xs := ([] : List Int)) (inner := []) (ok := fun _ => True) (okp := fun _ => True) ?hr ?hp (fun _ hk => hk) trivial (Below.refl _ _) (Nat.le_refl _) (by simp) ?_; (case hd => rfl); (case hg => rfl); (case hr => exact zz9); (case hp => exact (Reps.none _ _)); intro v105 w14 ho15 hb hg_ hnew_; clear hg_ hnew_; (first | rw [← Ny104.out] at ho15 | (simp only [Int.reduceToNat] at ho15; rw [← Ny104.out] at ho15)); have n_ := zA3 (Kd.R_lower ho15 (below_size zz0)) (blk_below (g := gb101) (o := .cells #[.int .i64 a0_0, .slice A0_1 l0_1.length c0_1] 25 (0, 0)) zz2 hb) (below_step zz0 hb); clear BK101 HB; obtain ⟨HO106, BK101, HB⟩ := n_; clear hb ho15))); (go_loopg [5, 6] kj2 (fun kq v5 v6 w' => ∃ (x5_2 : List Int) (x6_2 : Int), v6 = .int .i64 x6_2 ∧ Aside0 (spec_FullPile.l0 kq a1 x5_2 x6_2 a0_0 l0_1 = some r) ∧ Aside0 (kq ≤ kj2) ∧ Aside0 (Kd.R (Kd.int .i64) 3 w' w.heap.size (fun _ => True) v5 x5_2) ∧ Aside0 (w'.heap[gb101]? = some (.cells #[.int .i64 a0_0, (.slice A0_1 l0_1.length c0_1)] 25 (0, 0))) ∧ Aside0 (Below w.heap.size w w'))); case atStart => exact ⟨(y104), (0), zz5, H', ⟨Nat.le_refl _⟩, ⟨by (with_reducible repeat (first | apply Kd.R_alloc | apply Kd.R_drewN | apply Kd.R_drew)); exact HO106.out⟩, ⟨zz2⟩, ⟨zz0⟩⟩
   case round =>
    clear H'; (try clear c1); (try clear p2); (try clear c5); (try clear c6); (try clear p6); (try clear c10); (try clear c13); (try clear hcz10_0); (try clear hcz10_1); (try clear hcz11_0); (try clear hcz11_1); (try clear hcz8_0); (try clear hcz8_1); (try clear hfz10_0); (try clear hfz10_1); (try clear hfz11_0); (try clear hfz11_1); (try clear hfz8_0); (try clear hfz8_1); (try clear p2); (try clear p6); obtain ⟨x5_2, x6_2, rfl, HA, HK2, HO_5, BK101, HB⟩ := hrel
    cases gk with
    | zero => exact absurd HA.out (by simp [spec_FullPile.l0])
    | succ k2 =>
     have H := HA.out; clear HA; simp only [spec_FullPile.l0] at H; by_cases c16 : x6_2 < a0_0; rotate_left
     ·rw [if_neg c16] at H; have c16b0 := decide_eq_false c16; clear c16; obtain rfl := Option.some.inj H; have hcz26_0 := zC20 BK101; have hcz26_1 := zC21 BK101; have hfz26_0 := blk_frozen BK101.out 0; have hfz26_1 := blk_frozen BK101.out 1; go_wp2; go_ret; exact ⟨_, zz7, zz22, zz0⟩
     rw [if_pos c16] at H; have c16b0 := decide_eq_true c16; clear c16; by_cases c17 : x6_2 = a1
     ·rw [if_pos c17] at H; have c17b0 : (x6_2 == a1) = true := beq_iff_eq.mpr c17; have c17b1 : (x6_2 != a1) = false := bne_eq_false_iff_eq.mpr c17; clear c17; by_cases c18 : x5_2.length < 17592186044416; rotate_left
      ·rw [if_neg c18] at H; exact absurd H (by simp)
      rw [if_pos c18] at H; have LMc18 := Aside0.mk c18; clear c18; obtain ⟨y107, hy_⟩ : ∃ y_ : List Int, y_ = (x5_2 ++ [0]) := ⟨_, rfl⟩; (replace H : (spec_FullPile.l0 k2 a1 y107 (wrap64 (x6_2 + 1)) a0_0 l0_1) = some r := zzY); have Ny107 := Aside0.mk hy_; clear hy_; have H' := Aside0.mk H; clear H; have hcz19_0 := zC20 BK101; have hcz19_1 := zC21 BK101; have hfz19_0 := blk_frozen BK101.out 0; have hfz19_1 := blk_frozen BK101.out 1; (go_wp2_with (first | ((with_reducible refine gate_builtin (b := .append) (xs := #[.tmp 28, .tmp 29]) rfl ?_); at_builtin; refine Kd.R_append (Kd.int .i64) (w0 := w) w.heap.size rfl (.tmp 28) (.tmp 29) 26 3 (.int .i64 0) 8 rfl Try.underlying26 info3 rfl (by decide) (by omega) u5 x5_2 0 [.int .i64 0] (fun _ => True) (fun _ => False) rfl rfl ?aP (fun _ hk => hk.elim) ?aF ?aO ?aB ?aS ?aL ?_; (case aP => exact rfl); (case aB => exact zz0); (case aF => exact (fun _ _ => trivial)); (case aO => exact zz22); (case aS => exact (below_size zz0)); (case aL => have := LMc18.out; omega); intro v108 w20 ho hb hg hat; rw [← Ny107.out] at ho; have n_ := zA3 (blk_grown (g := gb101) (o := .cells #[.int .i64 a0_0, .slice A0_1 l0_1.length c0_1] 25 (0, 0)) zz2 hg (Kd.R_ne HO_5.out BK101.out (by decide))) hb ho; clear BK101 HB HO_5; obtain ⟨BK101, HB, HO109⟩ := n_; clear ho hb hg hat))); go_roundg k2; (case measure => have := HJ2.out; have := HK2.out; omega); case rel => exact ⟨(y107), (wrap64 (x6_2 + 1)), zz5, H', ⟨by have := HJ2.out; have := HK2.out; omega⟩, ⟨by (with_reducible repeat (first | apply Kd.R_alloc | apply Kd.R_drewN | apply Kd.R_drew)); exact HO109.out⟩, ⟨zz2⟩, ⟨zz0⟩⟩
     rw [if_neg c17] at H; have c17b0 : (x6_2 == a1) = false := beq_eq_false_iff_ne.mpr c17; have c17b1 : (x6_2 != a1) = true := bne_iff_ne.mpr c17; replace H := Option.bind_eq_some_iff.mp H; obtain ⟨t110, A210, H⟩ := H; (try dsimp only at H); have A21 := Aside0.mk A210; clear A210; by_cases c22 : x5_2.length < 17592186044416; rotate_left
     ·rw [if_neg c22] at H; exact absurd H (by simp)
     rw [if_pos c22] at H; have LMc22 := Aside0.mk c22; clear c22; obtain ⟨y111, hy_⟩ : ∃ y_ : List Int, y_ = (x5_2 ++ [wrap64 (t110 - 1)]) := ⟨_, rfl⟩; (replace H : (spec_FullPile.l0 k2 a1 y111 (wrap64 (x6_2 + 1)) a0_0 l0_1) = some r := zzY); have Ny111 := Aside0.mk hy_; clear hy_; have H' := Aside0.mk H; clear H; have hcz23_0 := zC20 BK101; have hcz23_1 := zC21 BK101; have hfz23_0 := blk_frozen BK101.out 0; have hfz23_1 := blk_frozen BK101.out 1; (go_wp2_with (first | ((with_reducible refine gate_callee (f := 73) rfl ?_); refine goesL_ (some 34) rfl rfl Try.func73 (by kernel_rfl) rfl #[.agg #[.int .i64 a0_0, .slice A0_1 l0_1.length c0_1], .int .i64 x6_2] rfl zz4 ?_; (with_reducible refine (spec_Valence.calls k2 a0_0 _ _ l0_1 x6_2 t110 _ ?side1 ?side2 A21.out).mono ?_); (case side1 => exact zz6); (case side2 => exact HC0_1.out); rintro e w24 ⟨rfl, hb⟩; refine ⟨_, rfl, ?_⟩; have n_ := zA3 (Kd.R_below zz22 hb) (blk_below (g := gb101) (o := .cells #[.int .i64 a0_0, .slice A0_1 l0_1.length c0_1] 25 (0, 0)) zz2 hb) (below_step zz0 hb); clear HO_5 BK101 HB; obtain ⟨HO_5, BK101, HB⟩ := n_; clear hb) | ((with_reducible refine gate_builtin (b := .append) (xs := #[.tmp 31, .tmp 36]) rfl ?_); at_builtin; refine Kd.R_append (Kd.int .i64) (w0 := w) w.heap.size rfl (.tmp 31) (.tmp 36) 26 3 (.int .i64 0) 8 rfl Try.underlying26 info3 rfl (by decide) (by omega) u5 x5_2 (wrap64 (t110 - 1)) [.int .i64 (wrap64 (t110 - 1))] (fun _ => True) (fun _ => False) rfl rfl ?aP (fun _ hk => hk.elim) ?aF ?aO ?aB ?aS ?aL ?_; (case aP => exact rfl); (case aB => exact zz0); (case aF => exact (fun _ _ => trivial)); (case aO => exact zz22); (case aS => exact (below_size zz0)); (case aL => have := LMc22.out; omega); intro v112 w25 ho hb hg hat; rw [← Ny111.out] at ho; have n_ := zA3 (blk_grown (g := gb101) (o := .cells #[.int .i64 a0_0, .slice A0_1 l0_1.length c0_1] 25 (0, 0)) zz2 hg (Kd.R_ne HO_5.out BK101.out (by decide))) hb ho; clear BK101 HB HO_5; obtain ⟨BK101, HB, HO113⟩ := n_; clear ho hb hg hat))); go_roundg k2; (case measure => have := HJ2.out; have := HK2.out; omega); case rel => exact ⟨(y111), (wrap64 (x6_2 + 1)), zz5, H', ⟨by have := HJ2.out; have := HK2.out; omega⟩, ⟨by (with_reducible repeat (first | apply Kd.R_alloc | apply Kd.R_drewN | apply Kd.R_drew)); exact HO113.out⟩, ⟨zz2⟩, ⟨zz0⟩⟩
end Go.Proofs.Ytnbljcgdgblgoaa.P
end

section
namespace Go.Proofs.Ytnbljcgdgblgoaa.P
open Go.RowKit Go.Proofs.YtnbljcgdgblgoaaW.PrintWords Go.Proofs.YtnbljcgdgblgoaaW.PrintLast Go.Proofs.YtnbljcgdgblgoaaW.PrintMore
attribute [local go_sem] max2_int min2_int max_two min_two max_three min_three max_four min_four
set_option linter.unusedVariables false
set_option linter.unusedSimpArgs false
def impl_FullPile.l0 : Nat → Int → List Int → Int → Int → Int → List (S57) → Option (List Int)
 | 0, _, _, _, _, _, _ => none
 | k + 1, x1, x5, x15, x16, x102000, x102001 => if x16 < x15 then (if x16 = x1 then (impl_FullPile.l0 k x1 x5 x15 (wrap64 (x16 + 1)) x102000 x102001) else ((impl_Valence.f k x102000 x102001 x16).bind fun t106 => (if 0 ≤ x16 then (if x16 < (x5.length : Int) then (impl_FullPile.l0 k x1 (x5.set (x16 : Int).toNat (wrap64 (t106 - 1))) x15 (wrap64 (x16 + 1)) x102000 x102001) else (none)) else (none)))) else (some x5)
def impl_FullPile.f (k : Nat) (a0_0 : Int) (l0_1 : List (S57)) (a1 : Int) : Option (List Int) := (impl_isVertex.f a0_0 l0_1 a1).bind fun t102 => (if t102 = true then (if 0 ≤ a0_0 then (if (a0_0 : Int).toNat ≤ 35184372088832 then ((some (List.replicate (a0_0 : Int).toNat 0 : List Int)).bind fun y103 => (impl_FullPile.l0 k a1 y103 (y103.length : Int) 0 a0_0 l0_1)) else (none)) else (none)) else (some ([] : List Int)))
theorem impl_FullPile.mono_l : ∀ k, (∀ y0 y1 y2 y3 y4 y5, LeO (impl_FullPile.l0 k y0 y1 y2 y3 y4 y5) (impl_FullPile.l0 (k + 1) y0 y1 y2 y3 y4 y5))
 | 0 => fun _ _ _ _ _ _ r h => by simp [impl_FullPile.l0] at h
 | k + 1 => by
  have ih0 := impl_FullPile.mono_l k
  ·intro y0 y1 y2 y3 y4 y5
   unfold impl_FullPile.l0
   exact zm14
theorem impl_FullPile.mono : ∀ a0 a1 a2 k, LeO (impl_FullPile.f k a0 a1 a2) (impl_FullPile.f (k + 1) a0 a1 a2) := by
 intro a0 a1 a2 k; have ih0 := impl_FullPile.mono_l k; unfold impl_FullPile.f; exact zm14
set_option maxHeartbeats 8000000 in
set_option maxRecDepth 100000 in
theorem impl_FullPile.calls (k : Nat) (a0_0 : Int) (A0_1 : Option Addr) (c0_1 : Nat) (l0_1 : List (S57)) (a1 : Int) (r : List Int) (w : World) (hr0_1 : Kd.C k57 w A0_1 l0_1.length l0_1) (hc0_1 : l0_1.length ≤ c0_1) (h : impl_FullPile.f k a0_0 l0_1 a1 = some r) :
  Calls Try.prog 68 #[.agg #[.int .i64 a0_0, .slice A0_1 l0_1.length c0_1], .int .i64 a1] w fun e w' => ∃ v0_ : Value, e = .returned (v0_) ∧ Kd.R (Kd.int .i64) 3 w' w.heap.size (fun _ => True) v0_ r ∧ Below w.heap.size w w' := by
 have hu25 := Try.underlying25; have HR0_1 := Aside0.mk hr0_1; have HC0_1 := Aside0.mk hc0_1; clear hr0_1 hc0_1; have HB := Aside0.mk (Below.refl w.heap.size w); have H : ((impl_isVertex.f a0_0 l0_1 a1).bind fun t102 => (if t102 = true then (if 0 ≤ a0_0 then (if (a0_0 : Int).toNat ≤ 35184372088832 then ((some (List.replicate (a0_0 : Int).toNat 0 : List Int)).bind fun y103 => (impl_FullPile.l0 k a1 y103 (y103.length : Int) 0 a0_0 l0_1)) else (none)) else (none)) else (some ([] : List Int)))) = some r := h; clear h; replace H := Option.bind_eq_some_iff.mp H; obtain ⟨t102, A30, H⟩ := H; (try dsimp only at H); have A3 := Aside0.mk A30; clear A30; by_cases c4 : t102 = true; rotate_left
 ·replace c4 := Bool.eq_false_iff.mpr c4; subst c4; rw [if_neg (show ¬ (false = true) by decide)] at H; obtain rfl := Option.some.inj H; go_enter Try.func68, Try.ntmps68; (go_wp2_with (first | ((with_reducible refine gate_dst (N := 2) rfl ?_); refine box_event ?hg (N := 2) ?hd (cs := #[.int .i64 a0_0, .slice A0_1 l0_1.length c0_1]) (t := 25) ?hr ?_; (case hd => rfl); (case hg => rfl); (case hr => exact zz9); intro gb101 hg w24 hbox hb; have n_ := zA4 (below_step zz1 hb) hbox (zz10 : w.heap.size ≤ gb101) (zz10 : w.heap.size ≤ gb101); clear HB; obtain ⟨HB, BK101, GW101, GE101⟩ := n_; clear hb hbox hg; have hcz25_0 := zC20 BK101; have hcz25_1 := zC21 BK101; have hfz25_0 := blk_frozen BK101.out 0; have hfz25_1 := blk_frozen BK101.out 1) | ((with_reducible refine gate_callee (f := 47) rfl ?_); refine goesL_ (some 9) rfl rfl Try.func47 (by kernel_rfl) rfl #[.agg #[.int .i64 a0_0, .slice A0_1 l0_1.length c0_1], .int .i64 a1] rfl zz4 ?_; (with_reducible refine (impl_isVertex.calls a0_0 _ _ l0_1 a1 false _ ?side1 ?side2 A3.out).mono ?_); (case side1 => exact zz6); (case side2 => exact HC0_1.out); rintro e w26 ⟨rfl, hb⟩; refine ⟨_, rfl, ?_⟩; have n_ := zA2 (blk_below (g := gb101) (o := .cells #[.int .i64 a0_0, .slice A0_1 l0_1.length c0_1] 25 (0, 0)) zz2 hb) (below_step zz0 hb); clear BK101 HB; obtain ⟨BK101, HB⟩ := n_; clear hb))); go_ret; exact ⟨_, zz7, zz42, zz0⟩
 subst c4; rw [if_pos rfl] at H; by_cases c5 : 0 ≤ a0_0; rotate_left
 ·rw [if_neg c5] at H; exact absurd H (by simp)
 rw [if_pos c5] at H; have c5b0 := eq_true c5; have c5b1 : decide (0 ≤ a0_0) = true := decide_eq_true c5; clear c5; by_cases c6 : (a0_0 : Int).toNat ≤ 35184372088832; rotate_left
 ·rw [if_neg c6] at H; exact absurd H (by simp)
 rw [if_pos c6] at H; have c6b0 := eq_true c6; have c6b1 : decide ((a0_0 : Int).toNat ≤ 35184372088832) = true := decide_eq_true c6; clear c6; obtain ⟨y103, hy_⟩ : ∃ y_ : List Int, y_ = (List.replicate (a0_0 : Int).toNat 0) := ⟨_, rfl⟩; (replace H : (impl_FullPile.l0 k a1 y103 (y103.length : Int) 0 a0_0 l0_1) = some r := zzY); have Ny103 := Aside0.mk hy_; clear hy_; have H' := Aside0.mk H; clear H; go_enter Try.func68, Try.ntmps68; (go_wp2_with (first | ((with_reducible refine gate_dst (N := 2) rfl ?_); refine box_event ?hg (N := 2) ?hd (cs := #[.int .i64 a0_0, .slice A0_1 l0_1.length c0_1]) (t := 25) ?hr ?_; (case hd => rfl); (case hg => rfl); (case hr => exact zz9); intro gb101 hg w7 hbox hb; have n_ := zA4 (below_step zz1 hb) hbox (zz10 : w.heap.size ≤ gb101) (zz10 : w.heap.size ≤ gb101); clear HB; obtain ⟨HB, BK101, GW101, GE101⟩ := n_; clear hb hbox hg; have hcz8_0 := zC20 BK101; have hcz8_1 := zC21 BK101; have hfz8_0 := blk_frozen BK101.out 0; have hfz8_1 := blk_frozen BK101.out 1) | ((with_reducible refine gate_callee (f := 47) rfl ?_); refine goesL_ (some 9) rfl rfl Try.func47 (by kernel_rfl) rfl #[.agg #[.int .i64 a0_0, .slice A0_1 l0_1.length c0_1], .int .i64 a1] rfl zz4 ?_; (with_reducible refine (impl_isVertex.calls a0_0 _ _ l0_1 a1 true _ ?side1 ?side2 A3.out).mono ?_); (case side1 => exact zz6); (case side2 => exact HC0_1.out); rintro e w9 ⟨rfl, hb⟩; refine ⟨_, rfl, ?_⟩; have n_ := zA2 (blk_below (g := gb101) (o := .cells #[.int .i64 a0_0, .slice A0_1 l0_1.length c0_1] 25 (0, 0)) zz2 hb) (below_step zz0 hb); clear BK101 HB; obtain ⟨BK101, HB⟩ := n_; clear hb; have hcz10_0 := zC20 BK101; have hcz10_1 := zC21 BK101; have hfz10_0 := blk_frozen BK101.out 0; have hfz10_1 := blk_frozen BK101.out 1) | ((with_reducible refine gate_dst (N := 13) rfl ?_); refine Kd.R_make (Kd.int .i64) _ 3 rfl (N := 13) rfl 26 _ _ rfl a0_0 rfl rfl Try.underlying26 (.int .i64 0) 8 info3 rfl (by decide) (by omega) 0 (ok := fun _ => True) (okp := fun _ => True) rfl (fun _ hk => hk) trivial (of_decide_eq_true zz3) (Nat.le_trans (Nat.mul_le_mul_right _ (of_decide_eq_true zz3 : a0_0.toNat ≤ 35184372088832)) (by omega)) (Below.refl _ _) (Nat.le_refl _) ?_; intro v104 w11 ho12 hb hg_ hnew_; clear hg_ hnew_; (first | rw [← Ny103.out] at ho12 | (simp only [Int.reduceToNat] at ho12; rw [← Ny103.out] at ho12)); have n_ := zA3 (Kd.R_lower ho12 (below_size zz0)) (blk_below (g := gb101) (o := .cells #[.int .i64 a0_0, .slice A0_1 l0_1.length c0_1] 25 (0, 0)) zz2 hb) (below_step zz0 hb); clear BK101 HB; obtain ⟨HO105, BK101, HB⟩ := n_; clear hb ho12; obtain ⟨Ao13, co13, eo13⟩ := Kd.R_slice HO105.out; subst eo13))); (go_loopg [16] k (fun kq v16 w' => ∃ (x5_1 : List Int) (x16_1 : Int), v16 = .int .i64 x16_1 ∧ Aside0 (impl_FullPile.l0 kq a1 x5_1 (y103.length : Int) x16_1 a0_0 l0_1 = some r) ∧ Aside0 (kq ≤ k) ∧ Aside0 (Kd.R (Kd.int .i64) 3 w' w.heap.size (fun _ => True) (.slice Ao13 y103.length co13) x5_1) ∧ Aside0 (w'.heap[gb101]? = some (.cells #[.int .i64 a0_0, (.slice A0_1 l0_1.length c0_1)] 25 (0, 0))) ∧ Aside0 (Below w.heap.size w w'))); case atStart => exact ⟨(y103), (0), zz5, H', ⟨Nat.le_refl _⟩, ⟨by (with_reducible repeat (first | apply Kd.R_alloc | apply Kd.R_drewN | apply Kd.R_drew)); exact HO105.out⟩, ⟨zz2⟩, ⟨zz0⟩⟩
 case round =>
  clear H'; (try clear p2); (try clear c4); (try clear c5); (try clear c5b0); (try clear c5b1); (try clear c6); (try clear c6b0); (try clear c6b1); (try clear hcz10_0); (try clear hcz10_1); (try clear hcz8_0); (try clear hcz8_1); (try clear hfz10_0); (try clear hfz10_1); (try clear hfz8_0); (try clear hfz8_1); obtain ⟨x5_1, x16_1, rfl, HA, HK1, HO_5, BK101, HB⟩ := hrel; have hl5_1 := (Kd.R_reads' HO_5.out).1; rw [hl5_1] at HO_5; (try simp only [hl5_1]); (try simp only [hl5_1] at BK101)
  cases gk with
  | zero => exact absurd HA.out (by simp [impl_FullPile.l0])
  | succ k1 =>
   have H := HA.out; clear HA; simp only [impl_FullPile.l0] at H; by_cases c14 : x16_1 < (y103.length : Int); rotate_left
   ·rw [if_neg c14] at H; have c14b0 := decide_eq_false c14; (try (have c14b85_1 := c14b0; first | rw [hl5_1] at c14b85_1 | rw [← hl5_1] at c14b85_1)); clear c14; obtain rfl := Option.some.inj H; go_wp2; go_ret; exact ⟨_, zz7, zz22, zz0⟩
   rw [if_pos c14] at H; have c14b0 := decide_eq_true c14; (try (have c14b85_1 := c14b0; first | rw [hl5_1] at c14b85_1 | rw [← hl5_1] at c14b85_1)); clear c14; by_cases c15 : x16_1 = a1
   ·rw [if_pos c15] at H; have c15b0 : (x16_1 == a1) = true := beq_iff_eq.mpr c15; have c15b1 : (x16_1 != a1) = false := bne_eq_false_iff_eq.mpr c15; clear c15; have H' := Aside0.mk H; clear H; go_wp2; (try simp only [← hl5_1]); go_roundg k1; (case measure => have := HK1.out; omega); case rel => exact ⟨(x5_1), (wrap64 (x16_1 + 1)), zz5, H', ⟨zz36⟩, ⟨by (try simp only [hl5_1]); (with_reducible repeat (first | apply Kd.R_alloc | apply Kd.R_drewN | apply Kd.R_drew)); exact HO_5.out⟩, ⟨by (try simp only [hl5_1]); (with_reducible repeat (first | refine blk_drewN ?_ _ | refine blk_drew ?_ | refine blk_alloc ?_ _)); exact BK101.out⟩, ⟨zz0⟩⟩
   rw [if_neg c15] at H; have c15b0 : (x16_1 == a1) = false := beq_eq_false_iff_ne.mpr c15; have c15b1 : (x16_1 != a1) = true := bne_iff_ne.mpr c15; replace H := Option.bind_eq_some_iff.mp H; obtain ⟨t106, A160, H⟩ := H; (try dsimp only at H); have A16 := Aside0.mk A160; clear A160; by_cases c17 : 0 ≤ x16_1; rotate_left
   ·rw [if_neg c17] at H; exact absurd H (by simp)
   rw [if_pos c17] at H; have c17b0 := decide_eq_true c17; clear c17; by_cases c18 : x16_1 < (x5_1.length : Int); rotate_left
   ·rw [if_neg c18] at H; exact absurd H (by simp)
   rw [if_pos c18] at H; have c18b0 := decide_eq_true c18; (try (have c18b85_1 := c18b0; first | rw [hl5_1] at c18b85_1 | rw [← hl5_1] at c18b85_1)); clear c18; obtain ⟨y107, hy_⟩ : ∃ y_ : List Int, y_ = (x5_1.set (x16_1 : Int).toNat (wrap64 (t106 - 1))) := ⟨_, rfl⟩; (replace H : (impl_FullPile.l0 k1 a1 y107 (y103.length : Int) (wrap64 (x16_1 + 1)) a0_0 l0_1) = some r := zzY); have Ny107 := Aside0.mk hy_; clear hy_; have H' := Aside0.mk H; clear H; have hcz20_0 := zC20 BK101; have hcz20_1 := zC21 BK101; have hfz20_0 := blk_frozen BK101.out 0; have hfz20_1 := blk_frozen BK101.out 1; (go_wp2_with (first | ((with_reducible refine gate_callee (f := 75) rfl ?_); refine goesL_ (some 26) rfl rfl Try.func75 (by kernel_rfl) rfl #[.agg #[.int .i64 a0_0, .slice A0_1 l0_1.length c0_1], .int .i64 x16_1] rfl zz4 ?_; (with_reducible refine (impl_Valence.calls k1 a0_0 _ _ l0_1 x16_1 t106 _ ?side1 ?side2 A16.out).mono ?_); (case side1 => exact zz6); (case side2 => exact HC0_1.out); rintro e w21 ⟨rfl, hb⟩; refine ⟨_, rfl, ?_⟩; have n_ := zA3 (Kd.R_below zz22 hb) (blk_below (g := gb101) (o := .cells #[.int .i64 a0_0, .slice A0_1 l0_1.length c0_1] 25 (0, 0)) zz2 hb) (below_step zz0 hb); clear HO_5 BK101 HB; obtain ⟨HO_5, BK101, HB⟩ := n_; clear hb; have p19 : 0 ≤ (x16_1 : Int) := of_decide_eq_true zz3; have q19 : (x16_1 : Int) < ((x5_1.length : Int) : Int) := of_decide_eq_true zz3; obtain ⟨go19, co19, eo19, gb19, gl19, cl19, HG19⟩ := Kd.R_form HO_5.out (by omega); (first | cases eo19 | (injection eo19 with ea_ en_ ec_; (first | subst ea_ | (injection ea_ with ea_; subst ea_)); subst ec_; clear en_)); have GB19 := Aside0.mk gb19; have GG19 := Aside0.mk HG19; clear gb19 gl19 HG19; obtain ⟨hx19_0, hf19_0⟩ := Kd.R_celln 0 HO_5.out (x16_1 : Int) p19 q19; replace p19 := eq_true p19; replace q19 := eq_true q19; obtain ⟨hy22_, hz22_⟩ := Kd.R_celln 0 HO_5.out (x16_1 : Int) (of_decide_eq_true zz3) (of_decide_eq_true zz3); have HP22 := Kd.R_putg HO_5.out (x16_1 : Int) (wrap64 (t106 - 1))) | ((with_reducible refine gate_store (t := 3) (p := 28) rfl ?_); refine store_event (t := 3) (p := 28) (v := ?vo_w23) (w1 := (w21.setCell ⟨go19, (x16_1 : Int).toNat, none⟩ (.int .i64 (wrap64 (t106 - 1))))) ?hg ?ho ?hn ?hr ?_; (case ho => rfl); (case hg => rfl); (case hn => rfl); (case hr => exact zz9); intro w23 hw; have hg : w21.grownBy w23 (some go19) := (by rw [hw]; exact HP22.2); have hp_ : Kd.R (Kd.int .i64) 3 w23 w.heap.size (fun _ => True) (.slice (some ⟨go19, 0, none⟩) x5_1.length co13) y107 := (by rw [hw, Ny107.out]; exact HP22.1); clear HP22; have n_ := zA3 hp_ (blk_grown (g := gb101) (o := .cells #[.int .i64 a0_0, .slice A0_1 l0_1.length c0_1] 25 (0, 0)) zz2 hg (Kd.R_ne HO_5.out BK101.out (by decide))) (by rw [hw]; exact below_set (HB.out) GB19.out : Below w.heap.size w w23); clear HO_5 BK101 HB; obtain ⟨HO_5, BK101, HB⟩ := n_; clear hg hw hp_))); (try simp only [← hl5_1]); go_roundg k1; (case measure => have := HK1.out; omega); case rel => exact ⟨(y107), (wrap64 (x16_1 + 1)), zz5, H', ⟨zz36⟩, ⟨by (try simp only [hl5_1]); (with_reducible repeat (first | apply Kd.R_alloc | apply Kd.R_drewN | apply Kd.R_drew)); exact HO_5.out⟩, ⟨by (try simp only [hl5_1]); (with_reducible repeat (first | refine blk_drewN ?_ _ | refine blk_drew ?_ | refine blk_alloc ?_ _)); exact BK101.out⟩, ⟨zz0⟩⟩
def impl_plus.l0 : Nat → List Int → List Int → Int → Int → Option (List Int)
 | 0, _, _, _, _ => none
 | k + 1, x1, x5, x10, x11 => if x11 < x10 then (if 0 ≤ x11 then (if x11 < (x5.length : Int) then (if x11 < (x1.length : Int) then (impl_plus.l0 k x1 (x5.set (x11 : Int).toNat (wrap64 ((rd x5 x11) + (rd x1 x11)))) x10 (wrap64 (x11 + 1))) else (none)) else (none)) else (none)) else (some x5)
def impl_plus.f (k : Nat) (l0 : List Int) (l1 : List Int) : Option (List Int) := (impl_copyInts.f l0).bind fun t101 => (impl_plus.l0 k l1 t101 (t101.length : Int) 0)
theorem impl_plus.mono_l : ∀ k, (∀ y0 y1 y2 y3, LeO (impl_plus.l0 k y0 y1 y2 y3) (impl_plus.l0 (k + 1) y0 y1 y2 y3))
 | 0 => fun _ _ _ _ r h => by simp [impl_plus.l0] at h
 | k + 1 => by
  have ih0 := impl_plus.mono_l k
  ·intro y0 y1 y2 y3
   unfold impl_plus.l0
   exact zm0
theorem impl_plus.mono : ∀ a0 a1 k, LeO (impl_plus.f k a0 a1) (impl_plus.f (k + 1) a0 a1) := by
 intro a0 a1 k; have ih0 := impl_plus.mono_l k; unfold impl_plus.f; exact zm0
def impl_plus.T5 : Bool × List (List Nat × List Nat) := (true, [([], []), ([], []), ([0, 1], [0, 1]), ([2], [2]), ([], []), ([], []), ([4, 5], [4, 5]), ([6], [6]), ([3, 7], [3, 7]), ([0, 1, 0, 1, 2, 3, 4, 5, 6, 7, 8], [0, 1]), ([9, 8, 0, 1, 2, 3, 4, 5, 6, 7, 8], [8, 9])])
def impl_plus.B5 : List Nat := [0, 0, 3, 7, 0, 0, 48, 112, 255, 511, 1023]
theorem impl_plus.tab5 : rtab .any (opsOf Try.f69 5) = impl_plus.T5 := by kernel_rfl
theorem impl_plus.bits5 : waitsOk impl_plus.T5.2 impl_plus.B5 = true := by kernel_rfl
set_option maxHeartbeats 8000000 in
set_option maxRecDepth 100000 in
theorem impl_plus.calls (k : Nat) (A0 : Option Addr) (c0 : Nat) (l0 : List Int) (A1 : Option Addr) (c1 : Nat) (l1 : List Int) (r : List Int) (w : World) (hr0 : Kd.C (Kd.int .i64) w A0 l0.length l0) (hc0 : l0.length ≤ c0) (hr1 : Kd.C (Kd.int .i64) w A1 l1.length l1) (hc1 : l1.length ≤ c1) (h : impl_plus.f k l0 l1 = some r) :
  Calls Try.prog 69 #[.slice A0 l0.length c0, .slice A1 l1.length c1] w fun e w' => ∃ v0_ : Value, e = .returned (v0_) ∧ Kd.R (Kd.int .i64) 3 w' w.heap.size (fun _ => True) v0_ r ∧ Below w.heap.size w w' := by
 have HR0 := Aside0.mk hr0; have HC0 := Aside0.mk hc0; clear hr0 hc0; have HR1 := Aside0.mk hr1; have HC1 := Aside0.mk hc1; clear hr1 hc1; have HB := Aside0.mk (Below.refl w.heap.size w); have H : ((impl_copyInts.f l0).bind fun t101 => (impl_plus.l0 k l1 t101 (t101.length : Int) 0)) = some r := h; clear h; replace H := Option.bind_eq_some_iff.mp H; obtain ⟨t101, A30, H⟩ := H; (try dsimp only at H); have A3 := Aside0.mk A30; clear A30; have H' := Aside0.mk H; clear H; go_enter Try.func69, Try.ntmps69; (go_wp2_with (first | ((with_reducible refine gate_callee (f := 86) rfl ?_); refine goesL_ (some 8) rfl rfl Try.func86 (by kernel_rfl) rfl #[.slice A0 l0.length c0] rfl zz4 ?_; (with_reducible refine (impl_copyInts.calls _ _ l0 t101 _ ?side1 ?side2 A3.out).mono ?_); (case side1 => exact zz25); (case side2 => exact HC0.out); rintro e w4 ⟨v102, rfl, ho0, hb⟩; refine ⟨_, rfl, ?_⟩; have n_ := zA2 (Kd.R_lower ho0 (below_size zz1)) (below_step zz1 hb); clear HB; obtain ⟨HO103, HB⟩ := n_; clear ho0 hb; obtain ⟨Ao5, co5, eo5⟩ := Kd.R_slice HO103.out; subst eo5))); (go_loopg [11] k (fun kq v11 w' => ∃ (x5_1 : List Int) (x11_1 : Int), v11 = .int .i64 x11_1 ∧ Aside0 (impl_plus.l0 kq l1 x5_1 (t101.length : Int) x11_1 = some r) ∧ Aside0 (kq ≤ k) ∧ Aside0 (Kd.R (Kd.int .i64) 3 w' w.heap.size (fun _ => True) (.slice Ao5 t101.length co5) x5_1) ∧ Aside0 (Below w.heap.size w w'))); case atStart => exact ⟨(t101), (0), zz5, H', ⟨Nat.le_refl _⟩, ⟨zz40⟩, ⟨zz1⟩⟩
 case round =>
  clear H'; (try clear c1); (try clear p2); obtain ⟨x5_1, x11_1, rfl, HA, HK1, HO_5, HB⟩ := hrel; have hl5_1 := (Kd.R_reads' HO_5.out).1; rw [hl5_1] at HO_5; (try simp only [hl5_1])
  cases gk with
  | zero => exact absurd HA.out (by simp [impl_plus.l0])
  | succ k1 =>
   have H := HA.out; clear HA; simp only [impl_plus.l0] at H; by_cases c6 : x11_1 < (t101.length : Int); rotate_left
   ·rw [if_neg c6] at H; have c6b0 := decide_eq_false c6; (try (have c6b85_1 := c6b0; first | rw [hl5_1] at c6b85_1 | rw [← hl5_1] at c6b85_1)); clear c6; obtain rfl := Option.some.inj H; go_wp2; go_ret; exact ⟨_, zz7, zz22, zz1⟩
   rw [if_pos c6] at H; have c6b0 := decide_eq_true c6; (try (have c6b85_1 := c6b0; first | rw [hl5_1] at c6b85_1 | rw [← hl5_1] at c6b85_1)); clear c6; by_cases c7 : 0 ≤ x11_1; rotate_left
   ·rw [if_neg c7] at H; exact absurd H (by simp)
   rw [if_pos c7] at H; have c7b0 := decide_eq_true c7; clear c7; by_cases c8 : x11_1 < (x5_1.length : Int); rotate_left
   ·rw [if_neg c8] at H; exact absurd H (by simp)
   rw [if_pos c8] at H; have c8b0 := decide_eq_true c8; (try (have c8b85_1 := c8b0; first | rw [hl5_1] at c8b85_1 | rw [← hl5_1] at c8b85_1)); clear c8; by_cases c9 : x11_1 < (l1.length : Int); rotate_left
   ·rw [if_neg c9] at H; exact absurd H (by simp)
   rw [if_pos c9] at H; have c9b0 := decide_eq_true c9; (try (have c9b85_1 := c9b0; first | rw [hl5_1] at c9b85_1 | rw [← hl5_1] at c9b85_1)); clear c9; obtain ⟨y106, hy_⟩ : ∃ y_ : List Int, y_ = (x5_1.set (x11_1 : Int).toNat (wrap64 ((rd x5_1 x11_1) + (rd l1 x11_1)))) := ⟨_, rfl⟩; (replace H : (impl_plus.l0 k1 l1 y106 (t101.length : Int) (wrap64 (x11_1 + 1))) = some r := zzY); have Ny106 := Aside0.mk hy_; clear hy_; have H' := Aside0.mk H; clear H; (try go_wp2); have n_ := zA2 (Kd.R_drew HO_5.out) (below_drew1 HB.out); clear HO_5 HB; obtain ⟨HO_5, HB⟩ := n_; have p104 : 0 ≤ (x11_1 : Int) := of_decide_eq_true zz3; have q104 : x11_1 < (x5_1.length : Int) := of_decide_eq_true zz3; obtain ⟨ad104, e104, hx104_0⟩ := Kd.at_int (Kd.R_reads' HO_5.out).2.2 x11_1 p104 q104; cases e104; replace p104 := eq_true p104; replace q104 := eq_true q104; have p105 : 0 ≤ (x11_1 : Int) := of_decide_eq_true zz3; have q105 : x11_1 < (l1.length : Int) := of_decide_eq_true zz3; obtain ⟨ad105, e105, hx105_0⟩ := Kd.at_int HR1.out x11_1 p105 q105; have hw105_0 := hx105_0; cases e105; replace hx105_0 := (HB.out.cell (World.block_lt_of_cell? w _ hx105_0)).trans hx105_0; replace p105 := eq_true p105; replace q105 := eq_true q105; have p10 : 0 ≤ (x11_1 : Int) := of_decide_eq_true zz3; have q10 : (x11_1 : Int) < ((x5_1.length : Int) : Int) := of_decide_eq_true zz3; obtain ⟨go10, co10, eo10, gb10, gl10, cl10, HG10⟩ := Kd.R_form HO_5.out (by omega); (first | cases eo10 | (injection eo10 with ea_ en_ ec_; (first | subst ea_ | (injection ea_ with ea_; subst ea_)); subst ec_; clear en_)); have GB10 := Aside0.mk gb10; have GG10 := Aside0.mk HG10; clear gb10 gl10 HG10; (first | simp only [add_plain] at hx104_0 | skip); obtain ⟨hx10_0, hf10_0⟩ := Kd.R_celln 0 HO_5.out (x11_1 : Int) p10 q10; replace p10 := eq_true p10; replace q10 := eq_true q10; have HP12 := Kd.R_putn HO_5.out (x11_1 : Int) (wrap64 ((rd x5_1 x11_1) + (rd l1 x11_1))); rw [← Ny106.out] at HP12; have HQ12 := Aside0.mk HP12; clear HP12; refine start_ (n := 11) (S := fun w' => w'.cell? ⟨go10, (x11_1).toNat, none⟩ = some (.int .i64 (rd x5_1 x11_1)) ∧ w'.cell? (ad105.add (x11_1).toNat) = some (.int .i64 (rd l1 x11_1))) (ds := [10]) (zM 11 0) (by kernel_rfl) rfl rfl ⟨hx104_0, ((HB.out.cell (World.block_lt_of_cell? w _ hw105_0)).trans hw105_0)⟩ (fun hHeld => ?_); refine with_tabW impl_plus.tab5 impl_plus.bits5 (fun HT_ HW_ => ?_); generalize wr.drew = w11 at HO_5 HB GG10 HQ12 hf10_0 hx104_0 hx105_0 hx10_0 hHeld ⊢; refine zQ 0 14 (zM 11 1) ?_
   refine zQ 1 15 (zM 11 3) ?_
   refine zQ 2 16 (zM 11 7) ?_
   refine zQ 4 18 (zM 11 23) ?_
   refine zQ 5 19 (zM 11 55) ?_
   refine zQ 6 20 (zM 11 119) ?_
   refine take_ (i := 3) (N := some 17) (v := ?_) (a' := ?_) (zM 11 127) rfl rfl (take_ofW HT_.out HW_.out (by kernel_rfl)) (fun _ _ _ h => h) (Or.inl ⟨by rfl, ?_⟩) hHeld ?_ ?_; rotate_left
   ·rintro w' ⟨s0, s1⟩; exact zzT
   rotate_left
   ·exact zzS
   refine take_ (i := 7) (N := some 21) (v := ?_) (a' := ?_) (zM 11 255) rfl rfl (take_ofW HT_.out HW_.out (by kernel_rfl)) (fun _ _ _ h => h) (Or.inl ⟨by rfl, ?_⟩) hHeld ?_ ?_; rotate_left
   ·rintro w' ⟨s0, s1⟩; exact zzT
   rotate_left
   ·exact zzS
   refine zQ 8 22 (zM 11 511) ?_
   refine zQ 9 23 (zM 11 1023) ?_
   refine last_ (i := 10) (N := none) (zM 11 2047) rfl rfl (one_of HT_.out (by kernel_rfl)) (by decide) (fun K hK => ?_); refine skip_ (w1 := ?_) (by rfl) rfl ?_ ?_; rotate_left
   ·go_simp; rfl
   refine hK.out _ _ ?_; clear hK K; refine done_ (done_of HT_.out (by kernel_rfl)) ?_; (try go_wp2); (try simp only [← hl5_1]); go_roundg k1; (case measure => have := HK1.out; omega); case rel => exact ⟨(y106), (wrap64 (x11_1 + 1)), zz5, H', ⟨zz36⟩, ⟨by (try simp only [hl5_1]); (with_reducible repeat (first | apply Kd.R_alloc | apply Kd.R_drewN | apply Kd.R_drew)); exact HQ12.out⟩, ⟨by repeat (first | (with_reducible first | exact HB.out | apply below_alloc | apply pw_below_drewN | apply below_drew1 | refine below_set ?_ GB10.out) | exact HB.out)⟩⟩
def spec_l07Minus.l0 : Nat → List Int → List Int → List Int → Int → Int → Option (List Int)
 | 0, _, _, _, _, _ => none
 | k + 1, x1, x5, x9, x10, x11 => if x11 < x10 then (if 0 ≤ x11 then (if x11 < (x9.length : Int) then (if x11 < (x1.length : Int) then (if x5.length < 17592186044416 then (spec_l07Minus.l0 k x1 (x5 ++ [wrap64 ((rd x9 x11) - (rd x1 x11))]) x9 x10 (wrap64 (x11 + 1))) else (none)) else (none)) else (none)) else (none)) else (some x5)
def spec_l07Minus.f (k : Nat) (l0 : List Int) (l1 : List Int) : Option (List Int) := spec_l07Minus.l0 k l1 (([] : List Int)) l0 (l0.length : Int) 0
theorem spec_l07Minus.mono_l : ∀ k, (∀ y0 y1 y2 y3 y4, LeO (spec_l07Minus.l0 k y0 y1 y2 y3 y4) (spec_l07Minus.l0 (k + 1) y0 y1 y2 y3 y4))
 | 0 => fun _ _ _ _ _ r h => by simp [spec_l07Minus.l0] at h
 | k + 1 => by
  have ih0 := spec_l07Minus.mono_l k
  ·intro y0 y1 y2 y3 y4
   unfold spec_l07Minus.l0
   exact zm0
theorem spec_l07Minus.mono : ∀ a0 a1 k, LeO (spec_l07Minus.f k a0 a1) (spec_l07Minus.f (k + 1) a0 a1) := by
 intro a0 a1 k; have ih0 := spec_l07Minus.mono_l k; unfold spec_l07Minus.f; exact zm0
set_option maxHeartbeats 8000000 in
set_option maxRecDepth 100000 in
theorem spec_l07Minus.calls (k : Nat) (A0 : Option Addr) (c0 : Nat) (l0 : List Int) (A1 : Option Addr) (c1 : Nat) (l1 : List Int) (r : List Int) (w : World) (hr0 : Kd.C (Kd.int .i64) w A0 l0.length l0) (hc0 : l0.length ≤ c0) (hr1 : Kd.C (Kd.int .i64) w A1 l1.length l1) (hc1 : l1.length ≤ c1) (h : spec_l07Minus.f k l0 l1 = some r) :
  Calls Try.prog 101 #[.slice A0 l0.length c0, .slice A1 l1.length c1] w fun e w' => ∃ v0_ : Value, e = .returned (v0_) ∧ Kd.R (Kd.int .i64) 3 w' w.heap.size (fun _ => True) v0_ r ∧ Below w.heap.size w w' := by
 have HR0 := Aside0.mk hr0; have HC0 := Aside0.mk hc0; clear hr0 hc0; have HR1 := Aside0.mk hr1; have HC1 := Aside0.mk hc1; clear hr1 hc1; have HB := Aside0.mk (Below.refl w.heap.size w); have H : (spec_l07Minus.l0 k l1 (([] : List Int)) l0 (l0.length : Int) 0) = some r := h; clear h; obtain ⟨y101, hy_⟩ : ∃ y_ : List Int, y_ = (([] : List Int)) := ⟨_, rfl⟩; (replace H : (spec_l07Minus.l0 k l1 y101 l0 (l0.length : Int) 0) = some r := zzY); have Ny101 := Aside0.mk hy_; clear hy_; have H' := Aside0.mk H; clear H; go_enter Try.func101, Try.ntmps101; (go_wp2_with (first | ((with_reducible refine gate_dst (N := 8) rfl ?_); refine Kd.R_lit (Kd.int .i64) _ 3 ?hg (N := 8) ?hd (xs := ([] : List Int)) (inner := []) (ok := fun _ => True) (okp := fun _ => True) ?hr ?hp (fun _ hk => hk) trivial (Below.refl _ _) (Nat.le_refl _) (by simp) ?_; (case hd => rfl); (case hg => rfl); (case hr => exact zz9); (case hp => exact (Reps.none _ _)); intro v102 w3 ho4 hb hg_ hnew_; clear hg_ hnew_; (first | rw [← Ny101.out] at ho4 | (simp only [Int.reduceToNat] at ho4; rw [← Ny101.out] at ho4)); have n_ := zA2 (Kd.R_lower ho4 (below_size zz1)) (below_step zz1 hb); clear HB; obtain ⟨HO103, HB⟩ := n_; clear hb ho4))); (go_loopg [5, 11] k (fun kq v5 v11 w' => ∃ (x5_1 : List Int) (x11_1 : Int), v11 = .int .i64 x11_1 ∧ Aside0 (spec_l07Minus.l0 kq l1 x5_1 l0 (l0.length : Int) x11_1 = some r) ∧ Aside0 (kq ≤ k) ∧ Aside0 (Kd.R (Kd.int .i64) 3 w' w.heap.size (fun _ => True) v5 x5_1) ∧ Aside0 (Below w.heap.size w w'))); case atStart => exact ⟨(y101), (0), zz5, H', ⟨Nat.le_refl _⟩, ⟨zz40⟩, ⟨zz1⟩⟩
 case round =>
  clear H'; (try clear c1); (try clear p2); obtain ⟨x5_1, x11_1, rfl, HA, HK1, HO_5, HB⟩ := hrel
  cases gk with
  | zero => exact absurd HA.out (by simp [spec_l07Minus.l0])
  | succ k1 =>
   have H := HA.out; clear HA; simp only [spec_l07Minus.l0] at H; by_cases c5 : x11_1 < (l0.length : Int); rotate_left
   ·rw [if_neg c5] at H; have c5b0 := decide_eq_false c5; clear c5; obtain rfl := Option.some.inj H; go_wp2; go_ret; exact ⟨_, zz7, zz22, zz1⟩
   rw [if_pos c5] at H; have c5b0 := decide_eq_true c5; clear c5; by_cases c6 : 0 ≤ x11_1; rotate_left
   ·rw [if_neg c6] at H; exact absurd H (by simp)
   rw [if_pos c6] at H; have c6b0 := decide_eq_true c6; clear c6; by_cases c7 : x11_1 < (l0.length : Int); rotate_left
   ·rw [if_neg c7] at H; exact absurd H (by simp)
   rw [if_pos c7] at H; have c7b0 := decide_eq_true c7; clear c7; by_cases c8 : x11_1 < (l1.length : Int); rotate_left
   ·rw [if_neg c8] at H; exact absurd H (by simp)
   rw [if_pos c8] at H; have c8b0 := decide_eq_true c8; clear c8; by_cases c9 : x5_1.length < 17592186044416; rotate_left
   ·rw [if_neg c9] at H; exact absurd H (by simp)
   rw [if_pos c9] at H; have LMc9 := Aside0.mk c9; clear c9; obtain ⟨y106, hy_⟩ : ∃ y_ : List Int, y_ = (x5_1 ++ [wrap64 ((rd l0 x11_1) - (rd l1 x11_1))]) := ⟨_, rfl⟩; (replace H : (spec_l07Minus.l0 k1 l1 y106 l0 (l0.length : Int) (wrap64 (x11_1 + 1))) = some r := zzY); have Ny106 := Aside0.mk hy_; clear hy_; have H' := Aside0.mk H; clear H; have p104 : 0 ≤ (x11_1 : Int) := of_decide_eq_true zz3; have q104 : x11_1 < (l0.length : Int) := of_decide_eq_true zz3; obtain ⟨ad104, e104, hx104_0⟩ := Kd.at_int HR0.out x11_1 p104 q104; cases e104; replace hx104_0 := (HB.out.cell (World.block_lt_of_cell? w _ hx104_0)).trans hx104_0; replace p104 := eq_true p104; replace q104 := eq_true q104; have p105 : 0 ≤ (x11_1 : Int) := of_decide_eq_true zz3; have q105 : x11_1 < (l1.length : Int) := of_decide_eq_true zz3; obtain ⟨ad105, e105, hx105_0⟩ := Kd.at_int HR1.out x11_1 p105 q105; cases e105; replace hx105_0 := (HB.out.cell (World.block_lt_of_cell? w _ hx105_0)).trans hx105_0; replace p105 := eq_true p105; replace q105 := eq_true q105; (go_wp2_with (first | ((with_reducible refine gate_builtin (b := .append) (xs := #[.tmp 16, .tmp 23]) rfl ?_); at_builtin; refine Kd.R_append (Kd.int .i64) (w0 := w) w.heap.size rfl (.tmp 16) (.tmp 23) 26 3 (.int .i64 0) 8 rfl Try.underlying26 info3 rfl (by decide) (by omega) u5 x5_1 (wrap64 ((rd l0 x11_1) - (rd l1 x11_1))) [.int .i64 (wrap64 ((rd l0 x11_1) - (rd l1 x11_1)))] (fun _ => True) (fun _ => False) rfl rfl ?aP (fun _ hk => hk.elim) ?aF ?aO ?aB ?aS ?aL ?_; (case aP => exact rfl); (case aB => exact zz1); (case aF => exact (fun _ _ => trivial)); (case aO => exact zz22); (case aS => exact (below_size zz1)); (case aL => have := LMc9.out; omega); intro v107 w10 ho hb hg hat; rw [← Ny106.out] at ho; have n_ := zA2 hb ho; clear HB HO_5; obtain ⟨HB, HO108⟩ := n_; clear ho hb hg hat))); go_roundg k1; (case measure => have := HK1.out; omega); case rel => exact ⟨(y106), (wrap64 (x11_1 + 1)), zz5, H', ⟨zz36⟩, ⟨by (with_reducible repeat (first | apply Kd.R_alloc | apply Kd.R_drewN | apply Kd.R_drew)); exact HO108.out⟩, ⟨zz1⟩⟩
def impl_NegateDivisor.l0 : Nat → List Int → Int → Int → Option (List Int)
 | 0, _, _, _ => none
 | k + 1, x3, x8, x9 => if x9 < x8 then (if 0 ≤ x9 then (if x9 < (x3.length : Int) then (impl_NegateDivisor.l0 k (x3.set (x9 : Int).toNat (wrap64 (-(rd x3 x9)))) x8 (wrap64 (x9 + 1))) else (none)) else (none)) else (some x3)
def impl_NegateDivisor.f (k : Nat) (l0 : List Int) : Option (List Int) := (impl_copyInts.f l0).bind fun t101 => (impl_NegateDivisor.l0 k t101 (t101.length : Int) 0)
theorem impl_NegateDivisor.mono_l : ∀ k, (∀ y0 y1 y2, LeO (impl_NegateDivisor.l0 k y0 y1 y2) (impl_NegateDivisor.l0 (k + 1) y0 y1 y2))
 | 0 => fun _ _ _ r h => by simp [impl_NegateDivisor.l0] at h
 | k + 1 => by
  have ih0 := impl_NegateDivisor.mono_l k
  ·intro y0 y1 y2
   unfold impl_NegateDivisor.l0
   exact zm0
theorem impl_NegateDivisor.mono : ∀ a0 k, LeO (impl_NegateDivisor.f k a0) (impl_NegateDivisor.f (k + 1) a0) := by
 intro a0 k; have ih0 := impl_NegateDivisor.mono_l k; unfold impl_NegateDivisor.f; exact zm0
set_option maxHeartbeats 8000000 in
set_option maxRecDepth 100000 in
theorem impl_NegateDivisor.calls (k : Nat) (A0 : Option Addr) (c0 : Nat) (l0 : List Int) (r : List Int) (w : World) (hr0 : Kd.C (Kd.int .i64) w A0 l0.length l0) (hc0 : l0.length ≤ c0) (h : impl_NegateDivisor.f k l0 = some r) :
  Calls Try.prog 70 #[.slice A0 l0.length c0] w fun e w' => ∃ v0_ : Value, e = .returned (v0_) ∧ Kd.R (Kd.int .i64) 3 w' w.heap.size (fun _ => True) v0_ r ∧ Below w.heap.size w w' := by
 have HR0 := Aside0.mk hr0; have HC0 := Aside0.mk hc0; clear hr0 hc0; have HB := Aside0.mk (Below.refl w.heap.size w); have H : ((impl_copyInts.f l0).bind fun t101 => (impl_NegateDivisor.l0 k t101 (t101.length : Int) 0)) = some r := h; clear h; replace H := Option.bind_eq_some_iff.mp H; obtain ⟨t101, A20, H⟩ := H; (try dsimp only at H); have A2 := Aside0.mk A20; clear A20; have H' := Aside0.mk H; clear H; go_enter Try.func70, Try.ntmps70; (go_wp2_with (first | ((with_reducible refine gate_callee (f := 86) rfl ?_); refine goesL_ (some 6) rfl rfl Try.func86 (by kernel_rfl) rfl #[.slice A0 l0.length c0] rfl zz4 ?_; (with_reducible refine (impl_copyInts.calls _ _ l0 t101 _ ?side1 ?side2 A2.out).mono ?_); (case side1 => exact zz25); (case side2 => exact HC0.out); rintro e w3 ⟨v102, rfl, ho0, hb⟩; refine ⟨_, rfl, ?_⟩; have n_ := zA2 (Kd.R_lower ho0 (below_size zz1)) (below_step zz1 hb); clear HB; obtain ⟨HO103, HB⟩ := n_; clear ho0 hb; obtain ⟨Ao4, co4, eo4⟩ := Kd.R_slice HO103.out; subst eo4))); (go_loopg [9] k (fun kq v9 w' => ∃ (x3_1 : List Int) (x9_1 : Int), v9 = .int .i64 x9_1 ∧ Aside0 (impl_NegateDivisor.l0 kq x3_1 (t101.length : Int) x9_1 = some r) ∧ Aside0 (kq ≤ k) ∧ Aside0 (Kd.R (Kd.int .i64) 3 w' w.heap.size (fun _ => True) (.slice Ao4 t101.length co4) x3_1) ∧ Aside0 (Below w.heap.size w w'))); case atStart => exact ⟨(t101), (0), zz5, H', ⟨Nat.le_refl _⟩, ⟨zz40⟩, ⟨zz1⟩⟩
 case round =>
  clear H'; (try clear p2); obtain ⟨x3_1, x9_1, rfl, HA, HK1, HO_3, HB⟩ := hrel; have hl3_1 := (Kd.R_reads' HO_3.out).1; rw [hl3_1] at HO_3; (try simp only [hl3_1])
  cases gk with
  | zero => exact absurd HA.out (by simp [impl_NegateDivisor.l0])
  | succ k1 =>
   have H := HA.out; clear HA; simp only [impl_NegateDivisor.l0] at H; by_cases c5 : x9_1 < (t101.length : Int); rotate_left
   ·rw [if_neg c5] at H; have c5b0 := decide_eq_false c5; (try (have c5b83_1 := c5b0; first | rw [hl3_1] at c5b83_1 | rw [← hl3_1] at c5b83_1)); clear c5; obtain rfl := Option.some.inj H; go_wp2; go_ret; exact ⟨_, zz7, zz19, zz1⟩
   rw [if_pos c5] at H; have c5b0 := decide_eq_true c5; (try (have c5b83_1 := c5b0; first | rw [hl3_1] at c5b83_1 | rw [← hl3_1] at c5b83_1)); clear c5; by_cases c6 : 0 ≤ x9_1; rotate_left
   ·rw [if_neg c6] at H; exact absurd H (by simp)
   rw [if_pos c6] at H; have c6b0 := decide_eq_true c6; clear c6; by_cases c7 : x9_1 < (x3_1.length : Int); rotate_left
   ·rw [if_neg c7] at H; exact absurd H (by simp)
   rw [if_pos c7] at H; have c7b0 := decide_eq_true c7; (try (have c7b83_1 := c7b0; first | rw [hl3_1] at c7b83_1 | rw [← hl3_1] at c7b83_1)); clear c7; obtain ⟨y105, hy_⟩ : ∃ y_ : List Int, y_ = (x3_1.set (x9_1 : Int).toNat (wrap64 (-(rd x3_1 x9_1)))) := ⟨_, rfl⟩; (replace H : (impl_NegateDivisor.l0 k1 y105 (t101.length : Int) (wrap64 (x9_1 + 1))) = some r := zzY); have Ny105 := Aside0.mk hy_; clear hy_; have H' := Aside0.mk H; clear H; have p104 : 0 ≤ (x9_1 : Int) := of_decide_eq_true zz3; have q104 : x9_1 < (x3_1.length : Int) := of_decide_eq_true zz3; obtain ⟨ad104, e104, hx104_0⟩ := Kd.at_int (Kd.R_reads' HO_3.out).2.2 x9_1 p104 q104; cases e104; replace p104 := eq_true p104; replace q104 := eq_true q104; have p8 : 0 ≤ (x9_1 : Int) := of_decide_eq_true zz3; have q8 : (x9_1 : Int) < ((x3_1.length : Int) : Int) := of_decide_eq_true zz3; obtain ⟨go8, co8, eo8, gb8, gl8, cl8, HG8⟩ := Kd.R_form HO_3.out (by omega); (first | cases eo8 | (injection eo8 with ea_ en_ ec_; (first | subst ea_ | (injection ea_ with ea_; subst ea_)); subst ec_; clear en_)); have GB8 := Aside0.mk gb8; have GG8 := Aside0.mk HG8; clear gb8 gl8 HG8; (first | simp only [add_plain] at hx104_0 | skip); obtain ⟨hx8_0, hf8_0⟩ := Kd.R_celln 0 HO_3.out (x9_1 : Int) p8 q8; replace p8 := eq_true p8; replace q8 := eq_true q8; have HP9 := Kd.R_putg HO_3.out (x9_1 : Int) (wrap64 (-(rd x3_1 x9_1))); (go_wp2_with (first | ((with_reducible refine gate_store (t := 3) (p := 19) rfl ?_); refine store_event (t := 3) (p := 19) (v := ?vo_w10) (w1 := (wr.setCell ⟨go8, (x9_1 : Int).toNat, none⟩ (.int .i64 (wrap64 (-(rd x3_1 x9_1)))))) ?hg ?ho ?hn ?hr ?_; (case ho => rfl); (case hg => rfl); (case hn => rfl); (case hr => exact zz9); intro w10 hw; have hg : wr.grownBy w10 (some go8) := (by rw [hw]; exact HP9.2); have hp_ : Kd.R (Kd.int .i64) 3 w10 w.heap.size (fun _ => True) (.slice (some ⟨go8, 0, none⟩) x3_1.length co4) y105 := (by rw [hw, Ny105.out]; exact HP9.1); clear HP9; have n_ := zA2 hp_ (by rw [hw]; exact below_set (HB.out) GB8.out : Below w.heap.size w w10); clear HO_3 HB; obtain ⟨HO_3, HB⟩ := n_; clear hg hw hp_))); (try simp only [← hl3_1]); go_roundg k1; (case measure => have := HK1.out; omega); case rel => exact ⟨(y105), (wrap64 (x9_1 + 1)), zz5, H', ⟨zz36⟩, ⟨by (try simp only [hl3_1]); (with_reducible repeat (first | apply Kd.R_alloc | apply Kd.R_drewN | apply Kd.R_drew)); exact HO_3.out⟩, ⟨zz1⟩⟩
end Go.Proofs.Ytnbljcgdgblgoaa.P
end

section
namespace Go.Proofs.Ytnbljcgdgblgoaa.Cf
set_option linter.unusedVariables false
set_option linter.unusedSimpArgs false
open Go.RowKit Go.Proofs.YtnbljcgdgblgoaaW.PrintWords Go.Proofs.Ytnbljcgdgblgoaa.P
def lapRow (n : Nat) (es : List E) (r : Int) : List Int := repL n fun c => lapM es r c
def lapL (n : Nat) (es : List E) : List (List Int) := (List.range n).map fun r : Nat => lapRow n es (r : Int)
theorem lapL_len (n : Nat) (es : List E) : (lapL n es).length = n := by simp [lapL]
theorem lapM_bd {es : List E} (hel : es.length ≤ 12) (r c : Int) : -12 ≤ lapM es r c ∧ lapM es r c ≤ 12 := by
  have h1 := val_nonneg es r
  have h2 := val_le es r
  have h3 := mult_nonneg es r c
  have h4 := mult_le es r c
  unfold lapM
  split <;> omega
theorem implLap_l1 {n : Nat} {es : List E} (hes : ∀ e ∈ es, EOk n e) (hel : es.length ≤ 12) (hn : n ≤ 6) {M : List (List Int)} (hM : M.length ≤ 6) {v : Nat} (hv : v < n) {Q : List (List Int) → Prop}
    (hQ : Ep (fun k => impl_LaplacianOf.l0 k (M ++ [lapRow n es (v : Int)]) ((v + 1 : Nat) : Int) (n : Int) es) Q) : ∀ (d i : Nat) (x : List Int), i + d = n → Rep n x (fun w => if w < i then - mult es (v : Int) w else 0) →
    Ep (fun k => impl_LaplacianOf.l1 k M (v : Int) x (n : Int) (i : Int) (n : Int) es) Q := by
  intro d
  induction d with
  | zero =>
    intro i x hi hx
    refine Ep.up ?_
    simp only [impl_LaplacianOf.l1]
    refine Ep.neg (by omega) (Ep.bind (implValence _ es _ (by omega)) ?_)
    rintro _ rfl
    refine Ep.pos (by omega) (Ep.pos (by have := hx.1; omega) (Ep.pos (by omega) ?_))
    have e : x.set ((v : Int)).toNat (valG (n : Int) es (v : Int)) = lapRow n es (v : Int) := ((hx.set (v := (v : Int)) (by omega) (by omega) _).congr fun w w0 w1 => by
      unfold lapM
      by_cases c : w = v
      · rw [if_pos c, if_pos c.symm, valG_in ⟨by omega, by omega⟩]
      · rw [if_neg c, if_pos (by omega), if_neg (fun q => c q.symm)]).eq
    rw [e, wrap_succ (by omega)]
    exact hQ
  | succ d ih =>
    intro i x hi hx
    refine Ep.up ?_
    simp only [impl_LaplacianOf.l1]
    refine Ep.pos (by omega) (Ep.bind (implMult _ es hes hel _ _ ⟨by omega, by omega⟩ ⟨by omega, by omega⟩) ?_)
    rintro _ rfl
    have hm0 := mult_nonneg es (v : Int) (i : Int)
    have hm1 := mult_le es (v : Int) (i : Int)
    refine Ep.pos (by omega) (Ep.pos (by have := hx.1; omega) ?_)
    rw [wrap_id (by omega) (by omega), wrap_succ (by omega)]
    refine ih (i + 1) _ (by omega) ((hx.set (v := (i : Int)) (by omega) (by omega) _).congr fun w w0 w1 => ?_)
    by_cases c : w = i
    · rw [if_pos c, if_pos (by omega), c]
    · rw [if_neg c]
      by_cases c2 : w < i
      · rw [if_pos c2, if_pos (by omega)]
      · rw [if_neg c2, if_neg (by omega)]
theorem lapL_take {n : Nat} (es : List E) {v : Nat} (hv : v < n) : (lapL n es).take (v + 1) = (lapL n es).take v ++ [lapRow n es (v : Int)] := by
  rw [List.take_succ_eq_append_getElem (by rw [lapL_len]; exact hv)]
  simp [lapL]
theorem implLap_l0 {n : Nat} {es : List E} (hes : ∀ e ∈ es, EOk n e) (hel : es.length ≤ 12) (hn : n ≤ 6) : ∀ (d v : Nat), v + d = n → Ep (fun k => impl_LaplacianOf.l0 k ((lapL n es).take v) (v : Int) (n : Int) es) (· = lapL n es) := by
  intro d
  induction d with
  | zero =>
    intro v hv
    refine Ep.up ?_
    simp only [impl_LaplacianOf.l0]
    refine Ep.neg (by omega) (Ep.now ?_)
    rw [List.take_of_length_le (by rw [lapL_len]; omega)]
  | succ d ih =>
    intro v hv
    have h1 := ih (v + 1) (by omega)
    rw [lapL_take es (by omega)] at h1
    refine Ep.up ?_
    simp only [impl_LaplacianOf.l0]
    refine Ep.pos (by omega) (Ep.pos (by omega) (Ep.pos (by omega) (Ep.bind0 rfl ?_)))
    rw [Int.toNat_natCast, List.length_replicate]
    exact implLap_l1 hes hel hn (by rw [List.length_take]; omega) (by omega) h1 n 0 _ (by omega) ((Rep.zero n).congr fun w w0 w1 => by rw [if_neg (by omega)])
theorem implLap {n : Nat} {es : List E} (hg : GOk (n : Int) es) : Ep (fun k => impl_LaplacianOf.f k (n : Int) es) (· = lapL n es) := by
  have hG := hg.1
  unfold EsOk at hG
  simp only [impl_LaplacianOf.f]
  refine Ep.bind0 (implGraph _ _) ?_
  rw [gOk_iff.2 hg]
  refine Ep.pos rfl ?_
  have := implLap_l0 (n := n) hG.2.2.2 hG.2.2.1 (by omega) n 0 (by omega)
  simpa using this
/-- The vertices but q. -/
def vsL (n q : Nat) : List Int := ((List.range n).eraseIdx q).map fun i : Nat => (i : Int)
theorem vsL_len {n q : Nat} (hq : q < n) : (vsL n q).length = n - 1 := by
  unfold vsL
  rw [List.length_map, List.length_eraseIdx, if_pos (by simpa using hq), List.length_range]
def redM (n : Nat) (es : List E) (q : Nat) : List (List Int) := (vsL n q).map fun r => (vsL n q).map fun c => lapM es r c
theorem redM_len {n q : Nat} (hq : q < n) (es : List E) : (redM n es q).length = n - 1 := by unfold redM; rw [List.length_map, vsL_len hq]
theorem keep_erase (q : Nat) (L : List (List Int)) : ∀ i, i ≤ L.length → keepF q L i = ((L.take i).eraseIdx q).map fun r => r.eraseIdx q
  | 0, _ => by simp [keepF]
  | i + 1, h => by
    have hi : i < L.length := by omega
    have ih := keep_erase q L i (by omega)
    unfold keepF
    have hl : (L.take i).length = i := by rw [List.length_take]; omega
    rw [List.take_succ_eq_append_getElem hi]
    by_cases c : i = q
    · rw [if_pos c, ih, List.eraseIdx_append_of_length_le (by omega), hl, show q - i = 0 by omega, List.eraseIdx_of_length_le (l := L.take i) (by omega)]
      simp
    · rw [if_neg c, ih]
      have hg : L.getD i [] = L[i] := by simp [List.getD, hi]
      rw [hg]
      by_cases d : q < i
      · rw [List.eraseIdx_append_of_lt_length (by omega)]
        simp
      · rw [List.eraseIdx_append_of_length_le (by omega), List.eraseIdx_of_length_le (l := L.take i) (by omega), List.eraseIdx_of_length_le (l := [L[i]]) (by simp; omega), List.map_append]
        rfl
theorem keep_red {n q : Nat} (es : List E) : keepF q (lapL n es) (lapL n es).length = redM n es q := by
  rw [keep_erase q _ _ (Nat.le_refl _), List.take_length]
  unfold lapL redM vsL lapRow repL
  rw [map_eraseIdx, List.map_map]
  show _ = (((List.range n).eraseIdx q).map fun i : Nat => (i : Int)).map _
  rw [List.map_map]
  refine List.map_congr_left fun r _ => ?_
  show ((List.range n).map fun c : Nat => lapM es (r : Int) (c : Int)).eraseIdx q = (((List.range n).eraseIdx q).map fun i : Nat => (i : Int)).map _
  rw [map_eraseIdx, List.map_map]
  rfl
theorem implRL {n : Nat} {es : List E} (hg : GOk (n : Int) es) {q : Nat} (hq : q < n) : Ep (fun k => impl_ReducedLaplacian.f k (n : Int) es (q : Int)) (· = redM n es q) := by
  have hG := hg.1
  unfold EsOk at hG
  simp only [impl_ReducedLaplacian.f]
  refine Ep.bind0 (isVertex_eq (n : Int) es _ (by simp [Wf, Lit.wf, IntKind.min, IntKind.max, IntKind.signed, IntKind.bits]; omega)) ?_
  refine Ep.pos (by rw [gOk_iff.2 hg]; simp; omega) ?_
  refine Ep.bind (implLap hg) ?_
  rintro _ rfl
  have e : redF (q : Int) (lapL n es) = some (redM n es q) := by
    unfold redF
    rw [if_pos, Int.toNat_natCast, keep_red]
    refine ⟨by omega, by omega, by rw [lapL_len]; omega, fun r hr => ?_⟩
    unfold lapL at hr
    obtain ⟨i, _, rfl⟩ := List.mem_map.1 hr
    unfold lapRow
    rw [repL_len]
    omega
  exact Ep.congr (fun _ => e) (Ep.now rfl)
/-- A matrix of m rows and columns, its entries at most 12. -/
def SqOk (m : Nat) (M : List (List Int)) : Prop := M.length = m ∧ (∀ r ∈ M, r.length = m) ∧ ∀ r ∈ M, ∀ x ∈ r, -12 ≤ x ∧ x ≤ 12
theorem rd_bd {l : List Int} (h : ∀ x ∈ l, -12 ≤ x ∧ x ≤ 12) (i : Int) : -12 ≤ rd l i ∧ rd l i ≤ 12 := by
  unfold rd
  by_cases c : i.toNat < l.length
  · rw [List.getD_eq_getElem?_getD, List.getElem?_eq_getElem c]
    exact h _ (List.getElem_mem c)
  · rw [List.getD_eq_getElem?_getD, List.getElem?_eq_none (by omega)]
    simp
theorem SqOk.ent {m : Nat} {M : List (List Int)} (h : SqOk m M) (r c : Int) : -12 ≤ ent M r c ∧ ent M r c ≤ 12 := by
  unfold Cf.ent
  by_cases d : r.toNat < M.length
  · rw [List.getD_eq_getElem?_getD, List.getElem?_eq_getElem d]
    exact rd_bd (h.2.2 _ (List.getElem_mem d)) c
  · rw [List.getD_eq_getElem?_getD, List.getElem?_eq_none (by omega)]
    simp [rd]
theorem det_bd {m : Nat} {M : List (List Int)} (h : SqOk m M) {rs cs : List Int} (hr : rs.length ≤ 5) (hc : cs.length ≤ 6) : -1934917632 ≤ detL M rs cs ∧ detL M rs cs ≤ 1934917632 := by
  have h1 := detL_bd (B := 12) (by omega) h.ent rs cs hc
  have h2 : ((6 * 12 : Int)) ^ rs.length ≤ 1934917632 := by
    match hl : rs.length, hr with
    | 0, _ => decide
    | 1, _ => decide
    | 2, _ => decide
    | 3, _ => decide
    | 4, _ => decide
    | 5, _ => decide
  omega
theorem alt_shift (n : Nat) (g : Nat → Int) (p : Nat) : alt (n + 1) (fun i => g (p + i)) = g p - alt n (fun i => g (p + 1 + i)) := by
  show g (p + 0) - _ = _
  rw [Nat.add_zero]
  congr 1
  exact alt_congr fun i _ => by show g (p + (i + 1)) = _; rw [show p + (i + 1) = p + 1 + i by omega]
theorem implDet_l0 {m : Nat} (hm : m ≤ 5) {M : List (List Int)} (hM : SqOk m M) {r : Int} {rs : List Int} (hr : 0 ≤ r ∧ r < m) (hrs : rs.length ≤ 4) {b : Nat} (hb : b < 2 ^ m)
    (ih : ∀ b' : Nat, b' < 2 ^ m → Ep (fun k => impl_determinant.f k M rs (b' : Int)) (· = detL M rs (bitsL b'))) :
    ∀ (d c : Nat) (s σ : Int), c + d = m → (σ = 1 ∨ σ = -1) → (-(c * 23219011584 : Int) ≤ s ∧ s ≤ c * 23219011584) →
      Ep (fun k => impl_determinant.l0 k M (r :: rs) (b : Int) s σ (rd_L3 M r) (m : Int) (c : Int))
        (· = s + σ * alt ((bitsL b).length - (bitsB b c).length) fun i => ent M r ((bitsL b).getD ((bitsB b c).length + i) 0) * detL M rs ((bitsL b).eraseIdx ((bitsB b c).length + i))) := by
  have h32 : (2 : Nat) ^ m ≤ 32 := by
    have := Nat.pow_le_pow_right (show 0 < 2 by omega) hm
    omega
  have hrow : (rd_L3 M r).length = m := by
    unfold rd_L3
    rw [List.getD_eq_getElem?_getD, List.getElem?_eq_getElem (by have := hM.1; omega)]
    exact hM.2.1 _ (List.getElem_mem _)
  intro d
  induction d with
  | zero =>
    intro c s σ hc hσ hs
    refine Ep.up ?_
    simp only [impl_determinant.l0]
    refine Ep.neg (by omega) (Ep.now ?_)
    have e := bm_all ⟨b, by omega⟩ ⟨c, by omega⟩ (by simp; rw [show c = m by omega]; exact hb)
    simp only at e
    rw [e, Nat.sub_self]
    simp [alt]
  | succ d ihd =>
    intro c s σ hc hσ hs
    refine Ep.up ?_
    simp only [impl_determinant.l0]
    refine Ep.pos (by omega) (Ep.pos (by omega) (Ep.pos (by omega) ?_))
    rw [wrap_succ (by omega)]
    have hsu := bitsB_succ b c
    rcases bm_val ⟨b, by omega⟩ ⟨c, by omega⟩ with ⟨b1, b2⟩ | ⟨b1, b2⟩
    · simp only at b1 b2
      rw [if_pos b2] at hsu
      obtain ⟨m', e1, e2, e3, e4⟩ := bm_drop ⟨b, by omega⟩ ⟨c, by omega⟩ b2
      simp only at e1 e2 e3 e4
      have hp : (bitsB b c).length < (bitsL b).length := by
        rw [List.getElem?_eq_some_iff] at e3
        exact e3.1
      have hg : (bitsL b).getD (bitsB b c).length 0 = (c : Int) := by rw [List.getD_eq_getElem?_getD, e3]; rfl
      have hl1 : (bitsB b (c + 1)).length = (bitsB b c).length + 1 := by rw [hsu]; simp
      have hsplit : (bitsL b).length - (bitsB b c).length = ((bitsL b).length - (bitsB b (c + 1)).length) + 1 := by omega
      have hent : rd (rd_L3 M r) (c : Int) = ent M r (c : Int) := rfl
      have hbd := hM.ent r (c : Int)
      have hdb := det_bd hM (rs := rs) (cs := bitsL m'.val) (by omega) (by have := bitsB_len m'.val 6; exact this)
      rw [hsplit, alt_shift _ (fun i => ent M r ((bitsL b).getD i 0) * detL M rs ((bitsL b).eraseIdx i)), hg, ← e2, ← hl1]
      refine Ep.neg (by rw [b1]; omega) ?_
      rw [hent]
      by_cases hz : ent M r (c : Int) = 0
      · refine Ep.pos hz ?_
        have hneg : wrap64 (-σ) = -σ := wrap_id (by omega) (by omega)
        rw [hneg]
        refine (ihd (c + 1) s (-σ) (by omega) (by omega) (by omega)).mono fun v hv => ?_
        rw [hv, hz, Int.zero_mul, Int.zero_sub, Int.mul_neg, Int.neg_mul]
      · refine Ep.neg hz (Ep.pos (by rw [List.length_cons]; omega) ?_)
        rw [e1]
        refine Ep.bind (ih m'.val (by omega)) ?_
        rintro _ rfl
        have hneg : wrap64 (-σ) = -σ := wrap_id (by omega) (by omega)
        have hprod := mul_bd hbd hdb
        have e5 : wrap64 (σ * ent M r (c : Int)) = σ * ent M r (c : Int) := by
          rcases hσ with rfl | rfl
          · exact wrap_id (by omega) (by omega)
          · exact wrap_id (by omega) (by omega)
        have e6 : σ * ent M r (c : Int) * detL M rs (bitsL m'.val) = σ * (ent M r (c : Int) * detL M rs (bitsL m'.val)) := Int.mul_assoc _ _ _
        have hb2 : -(23219011584 : Int) ≤ σ * (ent M r (c : Int) * detL M rs (bitsL m'.val)) ∧ σ * (ent M r (c : Int) * detL M rs (bitsL m'.val)) ≤ 23219011584 := by
          rcases hσ with rfl | rfl <;> omega
        rw [e5, e6]
        have e7 : wrap64 (σ * (ent M r (c : Int) * detL M rs (bitsL m'.val))) = σ * (ent M r (c : Int) * detL M rs (bitsL m'.val)) := wrap_id (by omega) (by omega)
        have e8 : wrap64 (s + σ * (ent M r (c : Int) * detL M rs (bitsL m'.val))) = s + σ * (ent M r (c : Int) * detL M rs (bitsL m'.val)) := wrap_id (by omega) (by omega)
        rw [e7, e8, hneg]
        refine (ihd (c + 1) _ (-σ) (by omega) (by omega) (by omega)).mono fun v hv => ?_
        rw [hv, Int.mul_sub, Int.neg_mul]
        omega
    · simp only at b1 b2
      have b2' : ¬ b.testBit c = true := by simpa using b2
      rw [if_neg b2', List.append_nil] at hsu
      refine Ep.pos b1 ?_
      have h := ihd (c + 1) s σ (by omega) hσ (by omega)
      rw [hsu] at h
      exact h
theorem implDet {m : Nat} (hm : m ≤ 5) {M : List (List Int)} (hM : SqOk m M) : ∀ (rs : List Int), rs.length ≤ 5 → (∀ r ∈ rs, 0 ≤ r ∧ r < (m : Int)) → ∀ b : Nat, b < 2 ^ m → Ep (fun k => impl_determinant.f k M rs (b : Int)) (· = detL M rs (bitsL b))
  | [], _, _, b, _ => by
    refine Ep.up ?_
    simp only [impl_determinant.f]
    exact Ep.pos rfl (Ep.now rfl)
  | r :: rs, hl, hr, b, hb => by
    have hr0 := hr r List.mem_cons_self
    have hrow : (rd_L3 M r).length = m := by
      unfold rd_L3
      rw [List.getD_eq_getElem?_getD, List.getElem?_eq_getElem (by have := hM.1; omega)]
      exact hM.2.1 _ (List.getElem_mem _)
    have ih := implDet hm hM rs (by simp at hl; omega) (fun x hx => hr x (List.mem_cons_of_mem _ hx))
    refine Ep.up ?_
    simp only [impl_determinant.f]
    have e : rd (r :: rs) 0 = r := rfl
    refine Ep.neg (by rw [List.length_cons]; omega) (Ep.pos (by rw [List.length_cons]; omega) (Ep.pos (by rw [e]; exact hr0.1) (Ep.pos (by rw [e, hM.1]; exact hr0.2) ?_)))
    rw [e, hrow]
    refine (implDet_l0 hm hM hr0 (by simp at hl; omega) hb ih m 0 0 1 (by omega) (Or.inl rfl) (by omega)).mono fun v hv => ?_
    rw [hv, show (bitsB b 0).length = 0 from rfl]
    simp only [Nat.sub_zero, Nat.zero_add, Int.zero_add, Int.one_mul]
    rfl
theorem implMat_l0 {m : Nat} (hm : m ≤ 5) {M : List (List Int)} (hM : SqOk m M) : ∀ (d i : Nat), i + d = m → Ep (fun k => impl_MatrixOk.l0 k M M (m : Int) (i : Int)) (· = true) := by
  intro d
  induction d with
  | zero =>
    intro i hi
    refine Ep.up ?_
    simp only [impl_MatrixOk.l0]
    exact Ep.neg (by omega) (Ep.now rfl)
  | succ d ih =>
    intro i hi
    have hml := hM.1
    have hlt : i < M.length := by omega
    have e : rd_L3 M (i : Int) = M[i] := by
      unfold rd_L3
      rw [Int.toNat_natCast, List.getD_eq_getElem?_getD, List.getElem?_eq_getElem hlt]
      rfl
    have h1 := hM.2.1 _ (List.getElem_mem hlt)
    have h2 := hM.2.2 _ (List.getElem_mem hlt)
    refine Ep.up ?_
    simp only [impl_MatrixOk.l0]
    refine Ep.pos (by omega) (Ep.pos (by omega) (Ep.pos (by omega) (Ep.pos (by rw [e]; omega) ?_)))
    rw [e]
    refine Ep.bind (allWithin_ok _ _ _ (by omega)) ?_
    rintro _ rfl
    refine Ep.pos (decide_eq_true fun x hx => by have := h2 x hx; omega) ?_
    rw [wrap_succ (by omega)]
    exact ih (i + 1) (by omega)
theorem implMatrixOk {m : Nat} (hm : m ≤ 5) {M : List (List Int)} (hM : SqOk m M) : Ep (fun k => impl_MatrixOk.f k M) (· = true) := by
  simp only [impl_MatrixOk.f]
  have hml := hM.1
  refine Ep.neg (by omega) ?_
  rw [hml]
  exact implMat_l0 hm hM m 0 (by omega)
/-- 0 .. m - 1. -/
def upTo (m : Nat) : List Int := (List.range m).map fun j : Nat => (j : Int)
theorem implDeterminant {m : Nat} (hm : m ≤ 5) {M : List (List Int)} (hM : SqOk m M) : Ep (fun k => impl_Determinant.f k M) (· = detL M (upTo m) (upTo m)) := by
  simp only [impl_Determinant.f]
  refine Ep.bind (implMatrixOk hm hM) ?_
  rintro _ rfl
  refine Ep.pos rfl ?_
  obtain ⟨h1, h2, h3, h4⟩ := bm_full (i := m) (by omega)
  rw [hM.1, h2]
  refine Ep.bind (implBits h4) ?_
  rintro _ rfl
  rw [h1]
  have hpos : 0 < 2 ^ m := Nat.pow_pos (by omega)
  refine Ep.bind (implDet hm hM _ (by simp; exact hm) (fun r hr => ?_) (2 ^ m - 1) (by omega)) ?_
  · obtain ⟨j, hj, rfl⟩ := List.mem_map.1 hr
    have := List.mem_range.1 hj
    omega
  · rintro _ rfl
    rw [h1]
    exact Ep.now rfl
theorem redM_sq {n q : Nat} (hq : q < n) {es : List E} (hel : es.length ≤ 12) : SqOk (n - 1) (redM n es q) := by
  refine ⟨redM_len hq es, fun r hr => ?_, fun r hr x hx => ?_⟩
  · unfold redM at hr
    obtain ⟨v, _, rfl⟩ := List.mem_map.1 hr
    rw [List.length_map, vsL_len hq]
  · unfold redM at hr
    obtain ⟨v, _, rfl⟩ := List.mem_map.1 hr
    obtain ⟨w, _, rfl⟩ := List.mem_map.1 hx
    exact lapM_bd hel _ _
/-- The i-th vertex of a list. -/
def vAt (vs : List Int) (i : Int) : Int := vs.getD i.toNat 0
theorem redM_ent {n q : Nat} (hq : q < n) (es : List E) {r c : Int} (hr : 0 ≤ r ∧ r < ((n - 1 : Nat) : Int)) (hc : 0 ≤ c ∧ c < ((n - 1 : Nat) : Int)) : ent (redM n es q) r c = lapM es (vAt (vsL n q) r) (vAt (vsL n q) c) := by
  have hl := vsL_len hq
  unfold ent redM rd vAt
  rw [getD_map (fun r => (vsL n q).map fun c => lapM es r c) (vsL n q) r.toNat 0 [] (by omega), getD_map (fun c => lapM es _ c) (vsL n q) c.toNat 0 0 (by omega)]
theorem detL_detC {M : List (List Int)} {A : Int → Int → Int} {v : Int → Int} : ∀ (rs cs : List Int), (∀ r ∈ rs, ∀ c ∈ cs, ent M r c = A (v r) (v c)) → detL M rs cs = detC (rs.map v) (cs.map fun c r => A r (v c))
  | [], cs, _ => rfl
  | r :: rs, cs, h => by
    show (alt cs.length fun i => ent M r (cs.getD i 0) * detL M rs (cs.eraseIdx i)) = alt (cs.map fun c r => A r (v c)).length fun i => ((cs.map fun c r => A r (v c)).getD i z0) (v r) * detC (rs.map v) ((cs.map fun c r => A r (v c)).eraseIdx i)
    rw [List.length_map]
    refine alt_congr fun i hi => ?_
    rw [getD_map (fun c r => A r (v c)) cs i 0 z0 hi, map_eraseIdx, detL_detC rs (cs.eraseIdx i) fun r' hr' c hc => h r' (List.mem_cons_of_mem _ hr') c (List.mem_of_mem_eraseIdx hc), h r List.mem_cons_self _ (getD_mem 0 hi)]
theorem upTo_mem {m : Nat} {x : Int} : x ∈ upTo m ↔ 0 ≤ x ∧ x < m := by
  unfold upTo
  rw [List.mem_map]
  constructor
  · rintro ⟨j, hj, rfl⟩
    have := List.mem_range.1 hj
    omega
  · exact fun h => ⟨x.toNat, List.mem_range.2 (by omega), by omega⟩
theorem upTo_vAt (vs : List Int) : (upTo vs.length).map (vAt vs) = vs := by
  unfold upTo
  rw [List.map_map]
  refine List.ext_getElem (by simp) fun i h1 h2 => ?_
  simp [vAt, List.getD, h2]
theorem redM_det {n q : Nat} (hq : q < n) (es : List E) : detL (redM n es q) (upTo (n - 1)) (upTo (n - 1)) = dlap es (vsL n q) := by
  rw [detL_detC (A := lapM es) (v := vAt (vsL n q)) _ _ fun r hr c hc => redM_ent hq es (upTo_mem.1 hr) (upTo_mem.1 hc)]
  unfold dlap
  have e := upTo_vAt (vsL n q)
  rw [vsL_len hq] at e
  have e2 : (upTo (n - 1)).map (fun (c r : Int) => lapM es r (vAt (vsL n q) c)) = ((upTo (n - 1)).map (vAt (vsL n q))).map fun c r => lapM es r c := by rw [List.map_map]; rfl
  rw [e2, e]
theorem implCountTrees {n : Nat} {es : List E} (hg : GOk (n : Int) es) : Ep (fun k => impl_CountTrees.f k (n : Int) es) (· = dlap es (vsL n 0)) := by
  have hG := hg.1
  unfold EsOk at hG
  simp only [impl_CountTrees.f]
  refine Ep.bind0 (implGraph _ _) ?_
  rw [gOk_iff.2 hg]
  refine Ep.pos rfl (Ep.bind (implRL hg (q := 0) (by omega)) ?_)
  rintro _ rfl
  refine Ep.bind (implDeterminant (by omega) (redM_sq (q := 0) (by omega) hG.2.2.1)) ?_
  rintro _ rfl
  rw [redM_det (by omega)]
  exact Ep.now rfl
end Go.Proofs.Ytnbljcgdgblgoaa.Cf
end

section
namespace Go.Proofs.Ytnbljcgdgblgoaa.Cf
set_option linter.unusedVariables false
set_option linter.unusedSimpArgs false
/-- The first number behind the last. -/
def fstS (s : List Int) : Nat := if s.length = 0 then 0 else (s.getD (s.length - 1) 0).toNat + 1
/-- The set made longer by the numbers below j. -/
def extS (s : List Int) (j : Nat) : List (List Int) := (List.range (j - fstS s)).map fun d => s ++ [((fstS s + d : Nat) : Int)]
def setsN (n : Nat) : Nat → List (List Int)
  | 0 => [[]]
  | k + 1 => (setsN n k).flatMap fun s => extS s n
/-- The longer sets of the first i of L. -/
def outS (n : Nat) (L : List (List Int)) (i : Nat) : List (List Int) := (L.take i).flatMap fun s => extS s n
theorem extS_self (s : List Int) {j : Nat} (h : j ≤ fstS s) : extS s j = [] := by
  unfold extS
  rw [Nat.sub_eq_zero_of_le h]
  rfl
theorem extS_succ (s : List Int) {j : Nat} (h : fstS s ≤ j) : extS s (j + 1) = extS s j ++ [s ++ [(j : Int)]] := by
  unfold extS
  rw [show j + 1 - fstS s = (j - fstS s) + 1 by omega, List.range_succ, List.map_append]
  simp only [List.map_cons, List.map_nil]
  rw [show fstS s + (j - fstS s) = j by omega]
theorem outS_succ (n : Nat) {L : List (List Int)} {i : Nat} {x : List Int} (h : L[i]? = some x) : outS n L (i + 1) = outS n L i ++ extS x n := by
  unfold outS
  rw [List.take_add_one, h, List.flatMap_append]
  simp
theorem outS_all (n : Nat) (L : List (List Int)) : outS n L L.length = L.flatMap fun s => extS s n := by
  unfold outS
  rw [List.take_length]
theorem extS_len (s : List Int) (j : Nat) : (extS s j).length ≤ j := by
  unfold extS
  rw [List.length_map, List.length_range]
  omega
theorem flat_len (n : Nat) : ∀ L : List (List Int), (L.flatMap fun s => extS s n).length ≤ n * L.length
  | [] => by simp
  | s :: L => by
    have h1 := extS_len s n
    have h2 := flat_len n L
    rw [List.flatMap_cons, List.length_append, List.length_cons, Nat.mul_succ]
    omega
theorem outS_len (n : Nat) (L : List (List Int)) (i : Nat) : (outS n L i).length ≤ n * L.length := Nat.le_trans (flat_len n _) (Nat.mul_le_mul_left _ (by rw [List.length_take]; omega))
theorem setsN_len {n : Nat} (hn : n ≤ 12) : ∀ k, (setsN n k).length ≤ 12 ^ k
  | 0 => by simp [setsN]
  | k + 1 => by
    have h1 := setsN_len hn k
    have h2 := flat_len n (setsN n k)
    have h3 := Nat.mul_le_mul hn h1
    rw [Nat.pow_succ]
    show ((setsN n k).flatMap fun s => extS s n).length ≤ _
    omega
theorem setsN_len6 {n : Nat} (hn : n ≤ 12) {k : Nat} (hk : k ≤ 6) : (setsN n k).length ≤ 2985984 := Nat.le_trans (setsN_len hn k) (Nat.pow_le_pow_right (show 0 < 12 by omega) hk)
/-- Each is of that size, and its numbers are below n. -/
theorem setsN_ok {n : Nat} : ∀ {k : Nat} {s : List Int}, s ∈ setsN n k → s.length = k ∧ ∀ x ∈ s, 0 ≤ x ∧ x < (n : Int)
  | 0, s, h => by
    rw [setsN, List.mem_singleton] at h
    subst h
    exact ⟨rfl, fun x hx => by cases hx⟩
  | k + 1, s, h => by
    rw [setsN, List.mem_flatMap] at h
    obtain ⟨t, ht, h⟩ := h
    unfold extS at h
    obtain ⟨d, hd, rfl⟩ := List.mem_map.1 h
    rw [List.mem_range] at hd
    obtain ⟨h1, h2⟩ := setsN_ok ht
    refine ⟨by rw [List.length_append, h1]; rfl, fun x hx => ?_⟩
    rcases List.mem_append.1 hx with hx | hx
    · exact h2 x hx
    · rw [List.mem_singleton] at hx
      omega
theorem fstS_le {n k : Nat} {s : List Int} (h : s ∈ setsN n k) : fstS s ≤ n := by
  obtain ⟨h1, h2⟩ := setsN_ok h
  unfold fstS
  by_cases c : s.length = 0
  · rw [if_pos c]; omega
  · rw [if_neg c, List.getD_eq_getElem?_getD, List.getElem?_eq_getElem (by omega)]
    have := h2 _ (List.getElem_mem (l := s) (n := s.length - 1) (by omega))
    simp only [Option.getD_some]
    omega
end Go.Proofs.Ytnbljcgdgblgoaa.Cf
end

section
namespace Go.Proofs.Ytnbljcgdgblgoaa.P
open Go.RowKit Go.Proofs.YtnbljcgdgblgoaaW.PrintWords Go.Proofs.YtnbljcgdgblgoaaW.PrintLast Go.Proofs.YtnbljcgdgblgoaaW.PrintMore
attribute [local go_sem] max2_int min2_int max_two min_two max_three min_three max_four min_four
set_option linter.unusedVariables false
set_option linter.unusedSimpArgs false
def spec_l03Sets.f (a0 a1 : Int) : Option (List (List Int)) := if 0 ≤ a0 ∧ a0 ≤ 12 ∧ 0 ≤ a1 ∧ a1 ≤ 6 then some (Cf.setsN a0.toNat a1.toNat) else none
set_option maxHeartbeats 8000000 in
set_option maxRecDepth 1000000 in
theorem spec_l03Sets.callsN (n : Nat) (hn : n ≤ 12) : ∀ (m : Nat), m ≤ 6 → ∀ w : World,
  Calls Try.prog 78 #[.int .i64 (n : Int), .int .i64 (m : Int)] w fun e w' => ∃ v0_ : Value, e = .returned (v0_) ∧ Kd.S (Kd.slice 3 (Kd.int .i64)) 26 w' w.heap.size (fun _ => True) v0_ (Cf.setsN n m) ∧ Below w.heap.size w w' := by
 intro m
 induction m with
 | zero =>
  intro hm w; have HB := Aside0.mk (Below.refl w.heap.size w); go_enter Try.func78, Try.ntmps78; (go_wp2_with (first | ((with_reducible refine gate_dst (N := 12) rfl ?_); refine Kd.R_lit (w0 := w) (Kd.int .i64) w.heap.size 3 ?hg (N := 12) ?hd (xs := ([] : List Int)) (inner := []) (ok := fun _ => True) (okp := fun _ => True) ?hr ?hp (fun _ hk => hk) trivial HB.out (below_size HB.out) (by simp) ?_; (case hd => rfl); (case hg => rfl); (case hr => exact zz9); (case hp => exact (Reps.none _ _)); intro vA wA ho hb hg_ hnew_; have HOA := Aside0.mk ho; have HBA := Aside0.mk hb; clear ho hb hg_ hnew_; obtain ⟨Ad, cd, ed⟩ := Kd.R_slice HOA.out; subst ed) | ((with_reducible refine gate_dst (N := 13) rfl ?_); refine Kd.S_lits (w0 := w) (Kd.slice 3 (Kd.int .i64)) w.heap.size 26 ?hg (N := 13) ?hd (xs := ([[]] : List (List Int))) (inner := [.slice Ad 0 cd]) (ok := fun _ => True) (fun j k => j = 0) ?hr rfl ?hp (fun i j k hi hj => hi.trans hj.symm) (fun _ _ _ => trivial) trivial HBA.out (below_size HBA.out) (by simp) ?_; (case hd => rfl); (case hg => rfl); (case hr => exact zz9); (case hp => exact fun j x hx => match j, hx with | 0, rfl => Kd.M_row (Kd.R_mono HOA.out fun _ _ => rfl) | _ + 1, h_ => absurd h_ (by simp)); intro vB wB ho hb hg_ hnew_; have HOB := Aside0.mk ho; have HBB := Aside0.mk hb; clear ho hb hg_ hnew_))); go_ret; exact ⟨_, rfl, HOB.out, HBB.out⟩
 | succ m ih =>
  intro hm w; have HB := Aside0.mk (Below.refl w.heap.size w); have HLn := Aside0.mk (Cf.setsN_len6 hn (k := m) (by omega)); have HOK := Aside0.mk (show ∀ x, x ∈ Cf.setsN n m → x.length = m ∧ (∀ y ∈ x, 0 ≤ y ∧ y < (n : Int)) ∧ Cf.fstS x ≤ n from fun x hx => ⟨(Cf.setsN_ok hx).1, (Cf.setsN_ok hx).2, Cf.fstS_le hx⟩); have e0 : Cf.setsN n (m + 1) = Cf.outS n (Cf.setsN n m) (Cf.setsN n m).length := (Cf.outS_all n _).symm; rw [e0]; have IH := Aside0.mk (ih (by omega)); clear ih e0; generalize Cf.setsN n m = L at HLn HOK IH ⊢; (have hm0 : (m : Int) ≤ 6 := by omega); (have hn0 : (n : Int) ≤ 12 := by omega); (have c1 : (((m + 1 : Nat) : Int) == 0) = false := by simp; omega); (have c2 : wrap64 (((m + 1 : Nat) : Int) - 1) = (m : Int) := by unfold wrap64; omega); have c2w : IntKind.i64.wrap (((m + 1 : Nat) : Int) - 1) = (m : Int) := (i64_w _).trans c2; generalize ((m + 1 : Nat) : Int) = m1 at c1 c2 c2w ⊢; go_enter Try.func78, Try.ntmps78; (go_wp2_with (first | ((with_reducible refine gate_dst (N := 14) rfl ?_); refine Kd.S_lit (w0 := w) (Kd.slice 3 (Kd.int .i64)) w.heap.size 26 ?hg (N := 14) ?hd (xs := ([] : List (List Int))) (inner := []) (ok := fun _ => True) (okp := fun _ => True) ?hr ?hp (fun _ hk => hk) trivial HB.out (below_size HB.out) (by simp) ?_; (case hd => rfl); (case hg => rfl); (case hr => exact zz9); (case hp => exact (Reps.none _ _)); intro v14 w1 ho hb hg_ hnew_; have HS0 := Aside0.mk ho; have HB1 := Aside0.mk hb; clear ho hb hg_ hnew_))); refine (IH.out w1).mono ?_; rintro e w2 ⟨vL, rfl, hS, hb⟩; have HB2 := Aside0.mk (below_step HB1.out hb); obtain ⟨AL, cL, eL, hcL, _⟩ := Kd.S_reads hS; subst eL; have HSL := Aside0.mk (Kd.S_mono (Kd.S_bound hS) (ok' := fun k => w1.heap.size ≤ k ∧ k < w2.heap.size) fun k hk => ⟨hk.2.1, hk.2.2.1⟩); have HSI := Aside0.mk (Kd.S_mono (Kd.S_bound (Kd.S_below (Kd.S_bound HS0.out) hb)) (ok' := fun k => k < w1.heap.size ∨ w2.heap.size ≤ k) fun k hk => .inl hk.1.2.2.1); have HW := Aside0.mk hb.size; have hLl : L.length ≤ cL := hcL; clear hS hb hcL HS0; go_wp2; (go_loopw [5, 20] (fun v5 v20 wr => ∃ i : Nat, v20 = .int .i64 (i : Int) ∧ Aside0 (i ≤ L.length ∧ w2.heap.size ≤ wr.heap.size) ∧ Aside0 (Below w.heap.size w wr) ∧ Aside0 (Kd.S (Kd.slice 3 (Kd.int .i64)) 26 wr w1.heap.size (fun k => w1.heap.size ≤ k ∧ k < w2.heap.size) (.slice AL L.length cL) L) ∧ Aside0 (Kd.S (Kd.slice 3 (Kd.int .i64)) 26 wr w.heap.size (fun k => k < w1.heap.size ∨ w2.heap.size ≤ k) v5 (Cf.outS n L i))) (fun _ v _ => L.length - (intOf v).toNat)); case atStart => exact ⟨0, rfl, ⟨Nat.zero_le _, Nat.le_refl _⟩, HB2, HSL, HSI⟩
  case round =>
   obtain ⟨i, rfl, HI, HBr, HLr, HS⟩ := hrel; by_cases hlt : i < L.length; rotate_left
   ·have c0 : decide ((i : Int) < (L.length : Int)) = false := decide_eq_false (by omega); (have hi : i = L.length := by have := HI.out; omega); subst hi; clear hlt; go_wp2; go_ret; exact ⟨_, rfl, Kd.S_mono HS.out (fun _ _ => trivial), HBr.out⟩
   have c0 : decide ((i : Int) < (L.length : Int)) = true := decide_eq_true (by omega); obtain ⟨x, hxi⟩ : ∃ x, L[i]? = some x := ⟨_, List.getElem?_eq_getElem hlt⟩
   have hx : rd_L3 L (i : Int) = x := by
    unfold rd_L3; rw [Int.toNat_natCast, List.getD_eq_getElem?_getD, hxi]; rfl
   (have p1 : (0 : Int) ≤ (i : Int) := by omega); (have p2 : (i : Int) < (L.length : Int) := by omega); obtain ⟨gL, _, _, eg, _, _, _⟩ := at_L3 (Kd.S_reads' HLr.out).2.2 (i : Int) p1 p2; subst eg; obtain ⟨cc, _, hM, hcell⟩ := Kd.S_get HLr.out ([] : List Int) (i : Int) p1 p2; obtain ⟨vx, hvx, hRx⟩ := hM; subst hvx; replace hcell := hcell 0 vx rfl; rw [show (L.getD ((i : Int)).toNat []) = x from hx] at hRx; (replace hRx := Kd.R_mono hRx (ok' := fun k => w1.heap.size ≤ k ∧ k < w2.heap.size) fun k hk => hk.1); obtain ⟨Ai, ci, ei⟩ := Kd.R_slice hRx; subst ei; rw [Int.toNat_natCast, show i * (Kd.slice 3 (Kd.int .i64)).sz + 0 = i from Nat.mul_one i] at hcell; have HRi := Aside0.mk hRx; clear hRx; (have hib : (i : Int) ≤ 3000000 := by have := HLn.out; omega); have HLT := Aside0.mk hlt; have HXI := Aside0.mk hxi; have hok := HOK.out x (List.mem_of_getElem? hxi); have HOX := Aside0.mk hok; clear hxi hlt hx; (have hxl : (x.length : Int) ≤ 6 := by have := HOX.out.1; omega); (have hfb : (Cf.fstS x : Int) ≤ 12 := by have := HOX.out.2.2; omega); clear hok; by_cases c3 : (x.length : Int) > 0; rotate_left
   ·have c3b0 := decide_eq_false c3; have c3b1 : decide (0 < x.length) = false := decide_eq_false (by omega); (have hf0 : Cf.fstS x = 0 := by unfold Cf.fstS; rw [if_pos (by omega)]); go_wp2; (go_loopw [5, 9] (fun v5 v9 wi => ∃ j : Nat, v9 = .int .i64 (j : Int) ∧ Aside0 (Cf.fstS x ≤ j ∧ j ≤ n ∧ w2.heap.size ≤ wi.heap.size) ∧ Aside0 (Below w.heap.size w wi) ∧ Aside0 (Kd.S (Kd.slice 3 (Kd.int .i64)) 26 wi w1.heap.size (fun k => w1.heap.size ≤ k ∧ k < w2.heap.size) (.slice (some gL) L.length cL) L) ∧ Aside0 (Kd.S (Kd.slice 3 (Kd.int .i64)) 26 wi w.heap.size (fun k => k < w1.heap.size ∨ w2.heap.size ≤ k) v5 (Cf.outS n L i ++ Cf.extS x j)) ∧ Aside0 (Kd.R (Kd.int .i64) 3 wi w1.heap.size (fun k => w1.heap.size ≤ k ∧ k < w2.heap.size) (.slice Ai x.length ci) x)) (fun _ v _ => n - (intOf v).toNat)); case atStart => exact ⟨Cf.fstS x, by rw [hf0]; rfl, ⟨Nat.le_refl _, HOX.out.2.2, HI.out.2⟩, HBr, HLr, ⟨by rw [Cf.extS_self x (Nat.le_refl _), List.append_nil]; exact HS.out⟩, HRi⟩
    case round =>
     obtain ⟨j, rfl, HJ, HBi, HLi, HSi, HRj⟩ := hrel; (have hjb : (j : Int) ≤ 12 := by have := HJ.out; omega); by_cases hj : j < n
     ·have d0 : decide ((j : Int) < (n : Int)) = true := decide_eq_true (by omega); have d1 : decide (j < n) = true := decide_eq_true hj; have HJN := Aside0.mk hj; clear hj; have HLA := Aside0.mk (show (Cf.outS n L i ++ Cf.extS x j).length ≤ 36000000 from by rw [List.length_append]; have a1 := Cf.outS_len n L i; have a2 := Cf.extS_len x j; have a3 := Nat.mul_le_mul hn HLn.out; omega); (go_wp2_with (first | ((with_reducible refine gate_dst (N := 41) rfl ?_); refine Kd.R_lit (w0 := wr) (Kd.int .i64) wr.heap.size 3 ?hg (N := 41) ?hd (xs := ([] : List Int)) (inner := []) (ok := fun _ => True) (okp := fun _ => True) ?hr ?hp (fun _ hk => hk) trivial (Below.refl _ _) (Nat.le_refl _) (by simp) ?_; (case hd => rfl); (case hg => rfl); (case hr => exact zz9); (case hp => exact (Reps.none _ _)); intro vA wA ho hb hg_ hnew_; have HOA := Aside0.mk ho; have HBA := Aside0.mk hb; clear ho hb hg_ hnew_) | ((with_reducible refine gate_builtin (b := .append) (xs := #[.tmp 41, .tmp 42]) rfl ?_); at_builtin; refine Kd.R_append_rows (Kd.int .i64) (w0 := wr) wr.heap.size rfl (.tmp 41) (.tmp 42) 26 3 (.int .i64 0) 8 rfl Try.underlying26 info3 rfl (by decide) (by omega) vA ([] : List Int) x _ _ _ (fun _ => True) (fun _ => False) rfl rfl HOA.out (Kd.C_below (Kd.R_reads' HRj.out).2.2 HBA.out) (fun _ _ h => h) (fun _ h => h.elim) (fun _ _ => trivial) HBA.out (below_size HBA.out) (by have := HOX.out.1; simp only [List.length_nil]; omega) ?_; intro vB wB ho hb hg hat; have HOB := Aside0.mk ho; have HBB := Aside0.mk hb; clear ho hb hg hat) | ((with_reducible refine gate_builtin (b := .append) (xs := #[.tmp 43, .tmp 45]) rfl ?_); at_builtin; refine Kd.R_append (Kd.int .i64) (w0 := wr) wr.heap.size rfl (.tmp 43) (.tmp 45) 26 3 (.int .i64 0) 8 rfl Try.underlying26 info3 rfl (by decide) (by omega) vB ([] ++ x) (j : Int) [.int .i64 (j : Int)] (fun _ => True) (fun _ => False) rfl rfl rfl (fun _ hk => hk.elim) (fun _ _ => trivial) HOB.out HBB.out (below_size HBB.out) (by have := HOX.out.1; simp only [List.nil_append]; omega) ?_; intro vC wC ho hb hg hat; obtain ⟨Ad, cd, ed⟩ := Kd.R_slice ho; subst ed; rw [List.nil_append, show (x ++ [(j : Int)]).length = x.length + 1 from List.length_append] at ho; have HD := Aside0.mk (Kd.R_mono (Kd.R_bound ho) (ok' := fun k => wr.heap.size ≤ k) fun k hk => hk.2.1); have HBC := Aside0.mk hb; clear ho hb hg hat) | ((with_reducible refine gate_builtin (b := .append) (xs := #[.tmp 40, .tmp 47]) rfl ?_); at_builtin; refine Kd.S_append (Kd.slice 3 (Kd.int .i64)) (w0 := w) w.heap.size rfl (.tmp 40) (.tmp 47) 34 26 (.slice none 0 0) 24 rfl Try.underlying34 info26 rfl (by decide) (by omega) u5 (Cf.outS n L i ++ Cf.extS x j) (x ++ [(j : Int)]) [.slice Ad (x.length + 1) cd] (fun k => k < w1.heap.size ∨ w2.heap.size ≤ k) (fun k => wr.heap.size ≤ k) rfl rfl (Kd.M_row (Kd.R_lower HD.out (below_size HBi.out))) (fun k hk => ⟨.inr (by have := HJ.out; omega), fun e => by have := Kd.S_lt HSi.out k e.symm; omega⟩) (fun k hk => .inr (by have := HJ.out; have := HBC.out.size; omega)) (Kd.S_mono (Kd.S_below (Kd.S_bound HSi.out) HBC.out) fun k hk => ⟨hk.1, fun h => by have := hk.2.2.1; omega⟩) (below_step HBi.out HBC.out) (below_size (below_step HBi.out HBC.out)) (by have := HLA.out; omega) ?_; intro vE wE ho hb hg hat; have HOE := Aside0.mk ho; have HBE := Aside0.mk hb; have HLE := Aside0.mk (Kd.S_grown (Kd.S_below (Kd.S_bound HLi.out) HBC.out) hg fun k hk e => by have := HSi.out.choose_spec.1 k e.symm; have := hk.1; omega); have HZE := Aside0.mk hg.size; have HRE := Aside0.mk (Kd.R_step (Kd.R_below HRj.out HBC.out) fun k hk hlt => hg.block k hlt fun e => by have := HSi.out.choose_spec.1 k e.symm; have := hk.1; have := hk.2; omega); clear ho hb hg hat))); go_roundw
      case rel =>
       refine ⟨j + 1, by go_num, ⟨by have := HJ.out; omega, by have := HJN.out; omega, by have := HBC.out.size; have := HZE.out; have := HJ.out; omega⟩, HBE, ⟨Kd.S_mono HLE.out fun k hk => hk.1⟩, ⟨?_⟩, HRE⟩; rw [Cf.extS_succ x HJ.out.1, ← List.append_assoc]; exact HOE.out
      case measure =>
       have := HJN.out; (simp [intOf]); omega
     have d0 : decide ((j : Int) < (n : Int)) = false := decide_eq_false (by omega); have d1 : decide (j < n) = false := decide_eq_false hj; (have hjn : j = n := by have := HJ.out; omega); subst hjn; clear hj; go_wp2; go_roundw
     case rel =>
      refine ⟨i + 1, by go_num, ⟨by have := HLT.out; omega, HJ.out.2.2⟩, HBi, HLi, ⟨?_⟩⟩; rw [Cf.outS_succ _ HXI.out]; exact HSi.out
     case measure =>
      have := HLT.out; (simp [intOf]); omega
   have c3b0 := decide_eq_true c3; have c3b1 : decide (0 < x.length) = true := decide_eq_true (by omega); obtain ⟨ji, hji⟩ : ∃ j_ : Int, (wrap64 ((x.length : Int) - 1)) = j_ := ⟨_, rfl⟩; have hjiw : (IntKind.i64.wrap ((x.length : Int) - 1)) = ji := (i64_w _).trans hji; (have hje : ji = (x.length : Int) - 1 := by rw [← hji]; unfold wrap64; omega); (have q1 : 0 ≤ ji := by omega); (have q2 : ji < (x.length : Int) := by omega); obtain ⟨ad, ea, hxa⟩ := Kd.at_int (Kd.R_reads' HRi.out).2.2 ji q1 q2; subst ea
   have hrd : rd x ji + 1 = (Cf.fstS x : Int) := by
    (have hl : 0 < x.length := by omega); (have hg : ji.toNat = x.length - 1 := by omega); have hmem := HOX.out.2.1 _ (List.getElem_mem (l := x) (n := x.length - 1) (by omega)); unfold rd Cf.fstS; rw [if_neg (by omega), hg, List.getD_eq_getElem?_getD, List.getElem?_eq_getElem (by omega)]; simp only [Option.getD_some]; omega
   (have hfw : wrap64 (rd x ji + 1) = (Cf.fstS x : Int) := by rw [hrd]; unfold wrap64; omega); have hfww : IntKind.i64.wrap (rd x ji + 1) = (Cf.fstS x : Int) := (i64_w _).trans hfw; clear hje hrd; have q1b : decide (0 ≤ ji) = true := decide_eq_true q1; have q2b : decide (ji < (x.length : Int)) = true := decide_eq_true q2; replace q1 := eq_true q1; replace q2 := eq_true q2; go_wp2; (go_loopw [5, 9] (fun v5 v9 wi => ∃ j : Nat, v9 = .int .i64 (j : Int) ∧ Aside0 (Cf.fstS x ≤ j ∧ j ≤ n ∧ w2.heap.size ≤ wi.heap.size) ∧ Aside0 (Below w.heap.size w wi) ∧ Aside0 (Kd.S (Kd.slice 3 (Kd.int .i64)) 26 wi w1.heap.size (fun k => w1.heap.size ≤ k ∧ k < w2.heap.size) (.slice (some gL) L.length cL) L) ∧ Aside0 (Kd.S (Kd.slice 3 (Kd.int .i64)) 26 wi w.heap.size (fun k => k < w1.heap.size ∨ w2.heap.size ≤ k) v5 (Cf.outS n L i ++ Cf.extS x j)) ∧ Aside0 (Kd.R (Kd.int .i64) 3 wi w1.heap.size (fun k => w1.heap.size ≤ k ∧ k < w2.heap.size) (.slice (some ad) x.length ci) x)) (fun _ v _ => n - (intOf v).toNat)); case atStart => exact ⟨Cf.fstS x, rfl, ⟨Nat.le_refl _, HOX.out.2.2, HI.out.2⟩, HBr, HLr, ⟨by rw [Cf.extS_self x (Nat.le_refl _), List.append_nil]; exact HS.out⟩, HRi⟩
   case round =>
    obtain ⟨j, rfl, HJ, HBi, HLi, HSi, HRj⟩ := hrel; (have hjb : (j : Int) ≤ 12 := by have := HJ.out; omega); by_cases hj : j < n
    ·have d0 : decide ((j : Int) < (n : Int)) = true := decide_eq_true (by omega); have d1 : decide (j < n) = true := decide_eq_true hj; have HJN := Aside0.mk hj; clear hj; have HLA := Aside0.mk (show (Cf.outS n L i ++ Cf.extS x j).length ≤ 36000000 from by rw [List.length_append]; have a1 := Cf.outS_len n L i; have a2 := Cf.extS_len x j; have a3 := Nat.mul_le_mul hn HLn.out; omega); (go_wp2_with (first | ((with_reducible refine gate_dst (N := 41) rfl ?_); refine Kd.R_lit (w0 := wr) (Kd.int .i64) wr.heap.size 3 ?hg (N := 41) ?hd (xs := ([] : List Int)) (inner := []) (ok := fun _ => True) (okp := fun _ => True) ?hr ?hp (fun _ hk => hk) trivial (Below.refl _ _) (Nat.le_refl _) (by simp) ?_; (case hd => rfl); (case hg => rfl); (case hr => exact zz9); (case hp => exact (Reps.none _ _)); intro vA wA ho hb hg_ hnew_; have HOA := Aside0.mk ho; have HBA := Aside0.mk hb; clear ho hb hg_ hnew_) | ((with_reducible refine gate_builtin (b := .append) (xs := #[.tmp 41, .tmp 42]) rfl ?_); at_builtin; refine Kd.R_append_rows (Kd.int .i64) (w0 := wr) wr.heap.size rfl (.tmp 41) (.tmp 42) 26 3 (.int .i64 0) 8 rfl Try.underlying26 info3 rfl (by decide) (by omega) vA ([] : List Int) x _ _ _ (fun _ => True) (fun _ => False) rfl rfl HOA.out (Kd.C_below (Kd.R_reads' HRj.out).2.2 HBA.out) (fun _ _ h => h) (fun _ h => h.elim) (fun _ _ => trivial) HBA.out (below_size HBA.out) (by have := HOX.out.1; simp only [List.length_nil]; omega) ?_; intro vB wB ho hb hg hat; have HOB := Aside0.mk ho; have HBB := Aside0.mk hb; clear ho hb hg hat) | ((with_reducible refine gate_builtin (b := .append) (xs := #[.tmp 43, .tmp 45]) rfl ?_); at_builtin; refine Kd.R_append (Kd.int .i64) (w0 := wr) wr.heap.size rfl (.tmp 43) (.tmp 45) 26 3 (.int .i64 0) 8 rfl Try.underlying26 info3 rfl (by decide) (by omega) vB ([] ++ x) (j : Int) [.int .i64 (j : Int)] (fun _ => True) (fun _ => False) rfl rfl rfl (fun _ hk => hk.elim) (fun _ _ => trivial) HOB.out HBB.out (below_size HBB.out) (by have := HOX.out.1; simp only [List.nil_append]; omega) ?_; intro vC wC ho hb hg hat; obtain ⟨Ad, cd, ed⟩ := Kd.R_slice ho; subst ed; rw [List.nil_append, show (x ++ [(j : Int)]).length = x.length + 1 from List.length_append] at ho; have HD := Aside0.mk (Kd.R_mono (Kd.R_bound ho) (ok' := fun k => wr.heap.size ≤ k) fun k hk => hk.2.1); have HBC := Aside0.mk hb; clear ho hb hg hat) | ((with_reducible refine gate_builtin (b := .append) (xs := #[.tmp 40, .tmp 47]) rfl ?_); at_builtin; refine Kd.S_append (Kd.slice 3 (Kd.int .i64)) (w0 := w) w.heap.size rfl (.tmp 40) (.tmp 47) 34 26 (.slice none 0 0) 24 rfl Try.underlying34 info26 rfl (by decide) (by omega) u5 (Cf.outS n L i ++ Cf.extS x j) (x ++ [(j : Int)]) [.slice Ad (x.length + 1) cd] (fun k => k < w1.heap.size ∨ w2.heap.size ≤ k) (fun k => wr.heap.size ≤ k) rfl rfl (Kd.M_row (Kd.R_lower HD.out (below_size HBi.out))) (fun k hk => ⟨.inr (by have := HJ.out; omega), fun e => by have := Kd.S_lt HSi.out k e.symm; omega⟩) (fun k hk => .inr (by have := HJ.out; have := HBC.out.size; omega)) (Kd.S_mono (Kd.S_below (Kd.S_bound HSi.out) HBC.out) fun k hk => ⟨hk.1, fun h => by have := hk.2.2.1; omega⟩) (below_step HBi.out HBC.out) (below_size (below_step HBi.out HBC.out)) (by have := HLA.out; omega) ?_; intro vE wE ho hb hg hat; have HOE := Aside0.mk ho; have HBE := Aside0.mk hb; have HLE := Aside0.mk (Kd.S_grown (Kd.S_below (Kd.S_bound HLi.out) HBC.out) hg fun k hk e => by have := HSi.out.choose_spec.1 k e.symm; have := hk.1; omega); have HZE := Aside0.mk hg.size; have HRE := Aside0.mk (Kd.R_step (Kd.R_below HRj.out HBC.out) fun k hk hlt => hg.block k hlt fun e => by have := HSi.out.choose_spec.1 k e.symm; have := hk.1; have := hk.2; omega); clear ho hb hg hat))); go_roundw
     case rel =>
      refine ⟨j + 1, by go_num, ⟨by have := HJ.out; omega, by have := HJN.out; omega, by have := HBC.out.size; have := HZE.out; have := HJ.out; omega⟩, HBE, ⟨Kd.S_mono HLE.out fun k hk => hk.1⟩, ⟨?_⟩, HRE⟩; rw [Cf.extS_succ x HJ.out.1, ← List.append_assoc]; exact HOE.out
     case measure =>
      have := HJN.out; (simp [intOf]); omega
    have d0 : decide ((j : Int) < (n : Int)) = false := decide_eq_false (by omega); have d1 : decide (j < n) = false := decide_eq_false hj; (have hjn : j = n := by have := HJ.out; omega); subst hjn; clear hj; go_wp2; go_roundw
    case rel =>
     refine ⟨i + 1, by go_num, ⟨by have := HLT.out; omega, HJ.out.2.2⟩, HBi, HLi, ⟨?_⟩⟩; rw [Cf.outS_succ _ HXI.out]; exact HSi.out
    case measure =>
     have := HLT.out; (simp [intOf]); omega
theorem spec_l03Sets.calls (a0 a1 : Int) (r : List (List Int)) (w : World) (h : spec_l03Sets.f a0 a1 = some r) :
  Calls Try.prog 78 #[.int .i64 a0, .int .i64 a1] w fun e w' => ∃ v0_ : Value, e = .returned (v0_) ∧ Kd.S (Kd.slice 3 (Kd.int .i64)) 26 w' w.heap.size (fun _ => True) v0_ r ∧ Below w.heap.size w w' := by
 unfold spec_l03Sets.f at h; split at h
 ·rename_i c; obtain ⟨h0, h1, h2, h3⟩ := c; obtain ⟨n, rfl⟩ := Int.eq_ofNat_of_zero_le h0; obtain ⟨m, rfl⟩ := Int.eq_ofNat_of_zero_le h2; obtain rfl := Option.some.inj h; exact spec_l03Sets.callsN n (by omega) m (by omega) w
 ·cases h
end Go.Proofs.Ytnbljcgdgblgoaa.P
end

section
namespace Go.Proofs.Ytnbljcgdgblgoaa.Cf
set_option linter.unusedVariables false
set_option linter.unusedSimpArgs false
open Go.RowKit Go.Proofs.YtnbljcgdgblgoaaW.PrintWords Go.Proofs.Ytnbljcgdgblgoaa.P
theorem lapRow_take {n : Nat} (es : List E) (a : Int) {v : Nat} (hv : v < n) : (lapRow n es a).take (v + 1) = (lapRow n es a).take v ++ [lapM es a (v : Int)] := by
  rw [List.take_succ_eq_append_getElem (by unfold lapRow; rw [repL_len]; exact hv)]
  unfold lapRow repL
  simp
theorem lapRow_len (n : Nat) (es : List E) (a : Int) : (lapRow n es a).length = n := by unfold lapRow; rw [repL_len]
theorem specLap_l1 {n : Nat} {es : List E} (hes : ∀ e ∈ es, EOk n e) (hel : es.length ≤ 12) (hn : n ≤ 6) {M : List (List Int)} (hM : M.length ≤ 6) {v : Nat} (hv : v < n) {Q : List (List Int) → Prop}
    (hQ : Ep (fun k => spec_LaplacianOf.l0 k (M ++ [lapRow n es (v : Int)]) ((v + 1 : Nat) : Int) (n : Int) es) Q) : ∀ (d i : Nat), i + d = n →
    Ep (fun k => spec_LaplacianOf.l1 k M (v : Int) ((lapRow n es (v : Int)).take i) (i : Int) (n : Int) es) Q := by
  intro d
  induction d with
  | zero =>
    intro i hi
    refine Ep.up ?_
    simp only [spec_LaplacianOf.l1]
    refine Ep.neg (by omega) (Ep.pos (by omega) ?_)
    rw [wrap_succ (by omega), List.take_of_length_le (by rw [lapRow_len]; omega)]
    exact hQ
  | succ d ih =>
    intro i hi
    have h := ih (i + 1) (by omega)
    rw [lapRow_take es _ (by omega)] at h
    have hl : ((lapRow n es (v : Int)).take i).length ≤ 6 := by rw [List.length_take, lapRow_len]; omega
    refine Ep.up ?_
    simp only [spec_LaplacianOf.l1]
    refine Ep.pos (by omega) ?_
    rw [wrap_succ (by omega)]
    by_cases c : v = i
    · refine Ep.pos (by omega) (Ep.bind (specValence _ es _ (by omega)) ?_)
      rintro _ rfl
      refine Ep.pos (by omega) ?_
      rw [valG_in ⟨by omega, by omega⟩]
      have e : lapM es (v : Int) (i : Int) = val es (v : Int) := by
        unfold lapM
        rw [if_pos (by omega)]
      rw [e] at h
      exact h
    · refine Ep.neg (by omega) (Ep.bind (specMult _ es hes hel _ _ ⟨by omega, by omega⟩ ⟨by omega, by omega⟩) ?_)
      rintro _ rfl
      have hm0 := mult_nonneg es (v : Int) (i : Int)
      have hm1 := mult_le es (v : Int) (i : Int)
      refine Ep.pos (by omega) ?_
      have e : lapM es (v : Int) (i : Int) = - mult es (v : Int) (i : Int) := by
        unfold lapM
        rw [if_neg (by omega)]
      rw [e] at h
      rw [wrap_id (by omega) (by omega)]
      exact h
theorem specLap_l0 {n : Nat} {es : List E} (hes : ∀ e ∈ es, EOk n e) (hel : es.length ≤ 12) (hn : n ≤ 6) : ∀ (d v : Nat), v + d = n → Ep (fun k => spec_LaplacianOf.l0 k ((lapL n es).take v) (v : Int) (n : Int) es) (· = lapL n es) := by
  intro d
  induction d with
  | zero =>
    intro v hv
    refine Ep.up ?_
    simp only [spec_LaplacianOf.l0]
    refine Ep.neg (by omega) (Ep.now ?_)
    rw [List.take_of_length_le (by rw [lapL_len]; omega)]
  | succ d ih =>
    intro v hv
    have h1 := ih (v + 1) (by omega)
    rw [lapL_take es (by omega)] at h1
    refine Ep.up ?_
    simp only [spec_LaplacianOf.l0]
    refine Ep.pos (by omega) ?_
    exact specLap_l1 hes hel hn (by rw [List.length_take]; omega) (by omega) h1 n 0 (by omega)
theorem specLap {n : Nat} {es : List E} (hg : GOk (n : Int) es) : Ep (fun k => spec_LaplacianOf.f k (n : Int) es) (· = lapL n es) := by
  have hG := hg.1
  unfold EsOk at hG
  simp only [spec_LaplacianOf.f]
  refine Ep.bind (specGraph _ _) ?_
  rintro _ rfl
  refine Ep.pos (gOk_iff.2 hg) ?_
  have := specLap_l0 (n := n) hG.2.2.2 hG.2.2.1 (by omega) n 0 (by omega)
  simpa using this
theorem specRL {n : Nat} {es : List E} (hg : GOk (n : Int) es) {q : Nat} (hq : q < n) : Ep (fun k => spec_ReducedLaplacian.f k (n : Int) es (q : Int)) (· = redM n es q) := by
  have hG := hg.1
  unfold EsOk at hG
  simp only [spec_ReducedLaplacian.f]
  refine Ep.bind (specGraph _ _) ?_
  rintro _ rfl
  refine Ep.pos (gOk_iff.2 hg) ?_
  rw [wrap_id (x := (n : Int) - 1) (by omega) (by omega)]
  refine Ep.bind0 (l01In_eq _ _ _) ?_
  refine Ep.pos (by simp; omega) ?_
  refine Ep.bind (specLap hg) ?_
  rintro _ rfl
  have hr : ∀ r ∈ lapL n es, r.length = n := fun r hr => by
    unfold lapL at hr
    obtain ⟨i, _, rfl⟩ := List.mem_map.1 hr
    exact lapRow_len n es _
  refine Ep.pos (fun r h => by rw [hr r h]; omega) ?_
  have e : redF (q : Int) (lapL n es) = some (redM n es q) := by
    unfold redF
    rw [if_pos, Int.toNat_natCast, keep_red]
    exact ⟨by omega, by omega, by rw [lapL_len]; omega, fun r h => by rw [hr r h]; omega⟩
  exact Ep.congr (fun _ => e) (Ep.now rfl)
theorem row_at {m : Nat} {M : List (List Int)} (hM : SqOk m M) {i : Nat} (hi : i < m) : rd_L3 M (i : Int) ∈ M := by
  unfold rd_L3
  rw [Int.toNat_natCast, List.getD_eq_getElem?_getD, List.getElem?_eq_getElem (by have := hM.1; omega)]
  exact List.getElem_mem _
theorem specMat_l1 {m : Nat} (hm : m ≤ 5) {M : List (List Int)} (hM : SqOk m M) {i : Nat} (hi : i < m) {r : List Int} (hr : r ∈ M) (hn : Ep (fun k => spec_MatrixOk.l0 k M M (m : Int) ((i + 1 : Nat) : Int)) (· = true)) :
    ∀ (d j : Nat), j + d = m → Ep (fun k => spec_MatrixOk.l1 k M M (m : Int) (i : Int) r (m : Int) (j : Int)) (· = true) := by
  have hl := hM.2.1 r hr
  intro d
  induction d with
  | zero =>
    intro j hj
    refine Ep.up ?_
    simp only [spec_MatrixOk.l1]
    refine Ep.neg (by omega) ?_
    rw [wrap_succ (by omega)]
    exact hn
  | succ d ih =>
    intro j hj
    have hb := rd_bd (hM.2.2 r hr) (j : Int)
    refine Ep.up ?_
    simp only [spec_MatrixOk.l1]
    refine Ep.pos (by omega) (Ep.pos (by omega) (Ep.pos (by omega) (Ep.bind0 (l01In_eq _ _ _) (Ep.pos (by simp; omega) ?_))))
    rw [wrap_succ (by omega)]
    exact ih (j + 1) (by omega)
theorem specMat_l0 {m : Nat} (hm : m ≤ 5) {M : List (List Int)} (hM : SqOk m M) : ∀ (d i : Nat), i + d = m → Ep (fun k => spec_MatrixOk.l0 k M M (m : Int) (i : Int)) (· = true) := by
  have hM1 := hM.1
  intro d
  induction d with
  | zero =>
    intro i hi
    refine Ep.up ?_
    simp only [spec_MatrixOk.l0]
    exact Ep.neg (by omega) (Ep.now rfl)
  | succ d ih =>
    intro i hi
    have hr := row_at hM (i := i) (by omega)
    have hl := hM.2.1 _ hr
    refine Ep.up ?_
    simp only [spec_MatrixOk.l0]
    refine Ep.pos (by omega) (Ep.pos (by omega) (Ep.pos (by omega) (Ep.pos (by omega) ?_)))
    rw [hl]
    exact specMat_l1 hm hM (by omega) hr (ih (i + 1) (by omega)) m 0 (by omega)
theorem specMatrixOk {m : Nat} (hm : m ≤ 5) {M : List (List Int)} (hM : SqOk m M) : Ep (fun k => spec_MatrixOk.f k M) (· = true) := by
  have hM1 := hM.1
  simp only [spec_MatrixOk.f]
  refine Ep.neg (by omega) ?_
  rw [hM1]
  exact specMat_l0 hm hM m 0 (by omega)
theorem specDet_l0 {m : Nat} (hm : m ≤ 5) {M : List (List Int)} (hM : SqOk m M) {r : Int} {rs : List Int} (hr : 0 ≤ r ∧ r < m) (hrs : rs.length ≤ 4) {cs : List Int} (hcs : cs.length ≤ 6) (hc : ∀ c ∈ cs, 0 ≤ c ∧ c < (m : Int))
    (ih : ∀ cs' : List Int, cs'.length ≤ 6 → (∀ c ∈ cs', 0 ≤ c ∧ c < (m : Int)) → Ep (fun k => spec_l03Det.f k M rs cs') (· = detL M rs cs')) :
    ∀ (d p : Nat) (s σ : Int), p + d = cs.length → (σ = 1 ∨ σ = -1) → (-(p * 23219011584 : Int) ≤ s ∧ s ≤ p * 23219011584) →
      Ep (fun k => spec_l03Det.l0 k M (r :: rs) cs s σ cs (cs.length : Int) (p : Int))
        (· = s + σ * alt (cs.length - p) fun i => ent M r (cs.getD (p + i) 0) * detL M rs (cs.eraseIdx (p + i))) := by
  have hM1 := hM.1
  have hrow : (rd_L3 M r).length = m := by
    unfold rd_L3
    rw [List.getD_eq_getElem?_getD, List.getElem?_eq_getElem (by have := hM.1; omega)]
    exact hM.2.1 _ (List.getElem_mem _)
  intro d
  induction d with
  | zero =>
    intro p s σ hp hσ hs
    refine Ep.up ?_
    simp only [spec_l03Det.l0]
    refine Ep.neg (by omega) (Ep.now ?_)
    rw [show cs.length - p = 0 by omega]
    simp [alt]
  | succ d ihd =>
    intro p s σ hp hσ hs
    have hlt : p < cs.length := by omega
    have e0 : rd (r :: rs) 0 = r := rfl
    have ec : rd cs (p : Int) = cs[p] := by
      rw [rd_nat, List.getD_eq_getElem?_getD, List.getElem?_eq_getElem hlt]
      rfl
    have hcp := hc _ (List.getElem_mem hlt)
    have eg : cs.getD p 0 = cs[p] := by
      rw [List.getD_eq_getElem?_getD, List.getElem?_eq_getElem hlt]
      rfl
    have hent : rd (rd_L3 M r) (cs[p]) = ent M r (cs.getD p 0) := by rw [eg]; rfl
    have hbd := hM.ent r (cs.getD p 0)
    have hle : (cs.eraseIdx p).length ≤ 6 := by rw [List.length_eraseIdx]; split <;> omega
    have hdb := det_bd hM (rs := rs) (cs := cs.eraseIdx p) (by omega) hle
    have hsplit : cs.length - p = (cs.length - (p + 1)) + 1 := by omega
    have hneg : wrap64 (-σ) = -σ := wrap_id (by omega) (by omega)
    refine Ep.up ?_
    simp only [spec_l03Det.l0]
    rw [e0, ec, hent, hneg, wrap_succ (by omega)]
    refine Ep.pos (by omega) (Ep.pos (by omega) (Ep.pos (by omega) (Ep.pos (by rw [List.length_cons]; omega) (Ep.pos (by omega) (Ep.pos (by omega) (Ep.pos (by omega) (Ep.pos (by omega) ?_)))))))
    rw [hsplit, alt_shift _ (fun i => ent M r (cs.getD i 0) * detL M rs (cs.eraseIdx i))]
    by_cases hz : ent M r (cs.getD p 0) = 0
    · refine Ep.pos hz ?_
      refine (ihd (p + 1) s (-σ) (by omega) (by omega) (by omega)).mono fun v hv => ?_
      rw [hv, hz, Int.zero_mul, Int.zero_sub, Int.mul_neg, Int.neg_mul]
    · refine Ep.neg hz (Ep.bind0 rfl (Ep.pos (by omega) (Ep.pos (by simp only [List.length_nil, List.length_take]; omega) (Ep.bind0 rfl (Ep.pos (by omega) (Ep.pos (by omega) (Ep.pos (by simp only [List.nil_append, List.length_take, List.length_drop]; omega) (Ep.pos (by rw [List.length_cons]; omega) ?_))))))))
      rw [List.nil_append, Int.toNat_natCast, Int.toNat_natCast, ← List.eraseIdx_eq_take_drop_succ, show (r :: rs).drop 1 = rs from rfl]
      refine Ep.bind (ih _ hle fun c h => hc c (List.mem_of_mem_eraseIdx h)) ?_
      rintro _ rfl
      have hprod := mul_bd hbd hdb
      have e5 : wrap64 (σ * ent M r (cs.getD p 0)) = σ * ent M r (cs.getD p 0) := by
        rcases hσ with rfl | rfl
        · exact wrap_id (by omega) (by omega)
        · exact wrap_id (by omega) (by omega)
      have e6 : σ * ent M r (cs.getD p 0) * detL M rs (cs.eraseIdx p) = σ * (ent M r (cs.getD p 0) * detL M rs (cs.eraseIdx p)) := Int.mul_assoc _ _ _
      have hb2 : -(23219011584 : Int) ≤ σ * (ent M r (cs.getD p 0) * detL M rs (cs.eraseIdx p)) ∧ σ * (ent M r (cs.getD p 0) * detL M rs (cs.eraseIdx p)) ≤ 23219011584 := by
        rcases hσ with rfl | rfl <;> omega
      rw [e5, e6]
      have e7 : wrap64 (σ * (ent M r (cs.getD p 0) * detL M rs (cs.eraseIdx p))) = σ * (ent M r (cs.getD p 0) * detL M rs (cs.eraseIdx p)) := wrap_id (by omega) (by omega)
      have e8 : wrap64 (s + σ * (ent M r (cs.getD p 0) * detL M rs (cs.eraseIdx p))) = s + σ * (ent M r (cs.getD p 0) * detL M rs (cs.eraseIdx p)) := wrap_id (by omega) (by omega)
      rw [e7, e8]
      refine (ihd (p + 1) _ (-σ) (by omega) (by omega) (by omega)).mono fun v hv => ?_
      rw [hv, Int.mul_sub, Int.neg_mul]
      omega
theorem specDet {m : Nat} (hm : m ≤ 5) {M : List (List Int)} (hM : SqOk m M) : ∀ (rs : List Int), rs.length ≤ 5 → (∀ r ∈ rs, 0 ≤ r ∧ r < (m : Int)) → ∀ cs : List Int, cs.length ≤ 6 → (∀ c ∈ cs, 0 ≤ c ∧ c < (m : Int)) → Ep (fun k => spec_l03Det.f k M rs cs) (· = detL M rs cs)
  | [], _, _, cs, _, _ => by
    refine Ep.up ?_
    simp only [spec_l03Det.f]
    exact Ep.pos rfl (Ep.now rfl)
  | r :: rs, hl, hr, cs, hcl, hc => by
    have hr0 := hr r List.mem_cons_self
    have ih := specDet hm hM rs (by simp at hl; omega) (fun x hx => hr x (List.mem_cons_of_mem _ hx))
    refine Ep.up ?_
    simp only [spec_l03Det.f]
    refine Ep.neg (by rw [List.length_cons]; omega) ?_
    refine (specDet_l0 hm hM hr0 (by simp at hl; omega) hcl hc ih cs.length 0 0 1 (by omega) (Or.inl rfl) (by omega)).mono fun v hv => ?_
    rw [hv]
    simp only [Nat.sub_zero, Nat.zero_add, Int.zero_add, Int.one_mul]
    rfl
end Go.Proofs.Ytnbljcgdgblgoaa.Cf
end

