/- A part of the proof of FnExactSumOfPiles. -/
import Derived.Test.YtgobnfeahffnaaaBFnExactSumOfPiles1
import Derived.Test.YtgobnfeahffnaaaBFnExactSumOfPiles0
section
namespace Go.Proofs.Ytgobnfeahffnaaa.P
open Go.RowKit Go.Proofs.YtgobnfeahffnaaaW.PrintWords Go.Proofs.YtgobnfeahffnaaaW.PrintLast Go.Proofs.YtgobnfeahffnaaaW.PrintMore
attribute [local go_sem] max2_int min2_int max_two min_two max_three min_three max_four min_four
set_option linter.unusedVariables false
set_option linter.unusedSimpArgs false
def spec_l04Fire.l0 : Nat → List Int → List Int → List (S83) → Int → Int → Option (List Int)
 | 0, _, _, _, _, _ => none
 | k + 1, x2, x7, x14, x15, x16 => if x16 < x15 then (if 0 ≤ x16 then (if x16 < (x14.length : Int) then (if 0 ≤ ((rd_T83 x14 x16).f0) then (if ((rd_T83 x14 x16).f0) < (x7.length : Int) then (if ((rd_T83 x14 x16).f0) < (x2.length : Int) then (if 0 ≤ ((rd_T83 x14 x16).f1) then (if ((rd_T83 x14 x16).f1) < (x2.length : Int) then ((some (x7.set (((rd_T83 x14 x16).f0) : Int).toNat (wrap64 ((wrap64 ((rd x7 ((rd_T83 x14 x16).f0)) - (rd x2 ((rd_T83 x14 x16).f0)))) + (rd x2 ((rd_T83 x14 x16).f1)))) : List Int)).bind fun y113 => (if ((rd_T83 x14 x16).f1) < (x7.length : Int) then (spec_l04Fire.l0 k x2 (y113.set (((rd_T83 x14 x16).f1) : Int).toNat (wrap64 ((wrap64 ((rd y113 ((rd_T83 x14 x16).f1)) - (rd x2 ((rd_T83 x14 x16).f1)))) + (rd x2 ((rd_T83 x14 x16).f0))))) x14 x15 (wrap64 (x16 + 1))) else (none))) else (none)) else (none)) else (none)) else (none)) else (none)) else (none)) else (none)) else (some x7)
def spec_l04Fire.f (k : Nat) (a0_0 : Int) (l0_1 : List (S83)) (l1 : List Int) (l2 : List Int) : Option (List Int) := (some (([] : List Int) : List Int)).bind fun y102 => (if y102.length + l1.length < 17592186044416 then (spec_l04Fire.l0 k l2 (y102 ++ l1) l0_1 (l0_1.length : Int) 0) else (none))
theorem spec_l04Fire.mono_l : ∀ k, (∀ y0 y1 y2 y3 y4, LeO (spec_l04Fire.l0 k y0 y1 y2 y3 y4) (spec_l04Fire.l0 (k + 1) y0 y1 y2 y3 y4))
 | 0 => fun _ _ _ _ _ r h => by simp [spec_l04Fire.l0] at h
 | k + 1 => by
  have ih0 := spec_l04Fire.mono_l k
  ·intro y0 y1 y2 y3 y4
   unfold spec_l04Fire.l0
   exact zm0
theorem spec_l04Fire.mono : ∀ a0 a1 a2 a3 k, LeO (spec_l04Fire.f k a0 a1 a2 a3) (spec_l04Fire.f (k + 1) a0 a1 a2 a3) := by
 intro a0 a1 a2 a3 k; have ih0 := spec_l04Fire.mono_l k; unfold spec_l04Fire.f; exact zm0
def spec_l04Fire.T5 : Bool × List (List Nat × List Nat) := (true, [([], []), ([], []), ([1], [1]), ([], []), ([], []), ([4], [4]), ([3, 5], [3, 5]), ([6], [6]), ([], []), ([], []), ([9], [9]), ([8, 10], [8, 10]), ([11], [11]), ([7, 12], [7, 12]), ([], []), ([], []), ([15], [15]), ([14, 16], [14, 16]), ([17], [17]), ([13, 18], [13, 18]), ([0, 2, 0, 1, 2, 3, 4, 5, 6, 7, 8, 9, 10, 11, 12, 13, 14, 15, 16, 17, 18, 19], [0, 2]), ([20, 19, 0, 1, 2, 3, 4, 5, 6, 7, 8, 9, 10, 11, 12, 13, 14, 15, 16, 17, 18, 19], [19, 20])])
def spec_l04Fire.B5 : List Nat := [0, 0, 2, 0, 0, 16, 56, 120, 0, 0, 512, 1792, 3840, 8184, 0, 0, 32768, 114688, 245760, 524280, 1048575, 2097151]
theorem spec_l04Fire.tab5 : rtab .any (opsOf Try.f98 5) = spec_l04Fire.T5 := by kernel_rfl
theorem spec_l04Fire.bits5 : waitsOk spec_l04Fire.T5.2 spec_l04Fire.B5 = true := by kernel_rfl
def spec_l04Fire.T6 : Bool × List (List Nat × List Nat) := (true, [([], []), ([], []), ([1], [1]), ([], []), ([], []), ([4], [4]), ([3, 5], [3, 5]), ([6], [6]), ([], []), ([], []), ([9], [9]), ([8, 10], [8, 10]), ([11], [11]), ([7, 12], [7, 12]), ([], []), ([], []), ([15], [15]), ([14, 16], [14, 16]), ([17], [17]), ([13, 18], [13, 18]), ([0, 2, 0, 1, 2, 3, 4, 5, 6, 7, 8, 9, 10, 11, 12, 13, 14, 15, 16, 17, 18, 19], [0, 2]), ([20, 19, 0, 1, 2, 3, 4, 5, 6, 7, 8, 9, 10, 11, 12, 13, 14, 15, 16, 17, 18, 19], [19, 20])])
def spec_l04Fire.B6 : List Nat := [0, 0, 2, 0, 0, 16, 56, 120, 0, 0, 512, 1792, 3840, 8184, 0, 0, 32768, 114688, 245760, 524280, 1048575, 2097151]
theorem spec_l04Fire.tab6 : rtab .any (opsOf Try.f98 6) = spec_l04Fire.T6 := by kernel_rfl
theorem spec_l04Fire.bits6 : waitsOk spec_l04Fire.T6.2 spec_l04Fire.B6 = true := by kernel_rfl
set_option maxHeartbeats 8000000 in
set_option maxRecDepth 100000 in
theorem spec_l04Fire.calls (k : Nat) (a0_0 : Int) (A0_1 : Option Addr) (c0_1 : Nat) (l0_1 : List (S83)) (A1 : Option Addr) (c1 : Nat) (l1 : List Int) (A2 : Option Addr) (c2 : Nat) (l2 : List Int) (r : List Int) (w : World) (hr0_1 : Kd.C k83 w A0_1 l0_1.length l0_1) (hc0_1 : l0_1.length ≤ c0_1) (hr1 : Kd.C (Kd.int .i64) w A1 l1.length l1) (hc1 : l1.length ≤ c1) (hr2 : Kd.C (Kd.int .i64) w A2 l2.length l2) (hc2 : l2.length ≤ c2) (h : spec_l04Fire.f k a0_0 l0_1 l1 l2 = some r) :
  Calls Try.prog 98 #[.agg #[.int .i64 a0_0, .slice A0_1 l0_1.length c0_1], .slice A1 l1.length c1, .slice A2 l2.length c2] w fun e w' => ∃ v0_ : Value, e = .returned (v0_) ∧ Kd.R (Kd.int .i64) 3 w' w.heap.size (fun _ => True) v0_ r ∧ Below w.heap.size w w' := by
 have hu25 := Try.underlying25; have hu83 := Try.underlying83; have HR0_1 := Aside0.mk hr0_1; have HC0_1 := Aside0.mk hc0_1; clear hr0_1 hc0_1; have HR1 := Aside0.mk hr1; have HC1 := Aside0.mk hc1; clear hr1 hc1; have HR2 := Aside0.mk hr2; have HC2 := Aside0.mk hc2; clear hr2 hc2; have HB := Aside0.mk (Below.refl w.heap.size w); have H : ((some (([] : List Int) : List Int)).bind fun y102 => (if y102.length + l1.length < 17592186044416 then (spec_l04Fire.l0 k l2 (y102 ++ l1) l0_1 (l0_1.length : Int) 0) else (none))) = some r := h; clear h; obtain ⟨y102, hy_⟩ : ∃ y_ : List Int, y_ = (([] : List Int)) := ⟨_, rfl⟩; (replace H : (if y102.length + l1.length < 17592186044416 then (spec_l04Fire.l0 k l2 (y102 ++ l1) l0_1 (l0_1.length : Int) 0) else (none)) = some r := zzY); have Ny102 := Aside0.mk hy_; clear hy_; by_cases c4 : y102.length + l1.length < 17592186044416; rotate_left
 ·rw [if_neg c4] at H; exact absurd H (by simp)
 rw [if_pos c4] at H; have LMc4 := Aside0.mk c4; clear c4; obtain ⟨y105, hy_⟩ : ∃ y_ : List Int, y_ = (y102 ++ l1) := ⟨_, rfl⟩; (replace H : (spec_l04Fire.l0 k l2 y105 l0_1 (l0_1.length : Int) 0) = some r := zzY); have Ny105 := Aside0.mk hy_; clear hy_; have H' := Aside0.mk H; clear H; go_enter Try.func98, Try.ntmps98; (go_wp2_with (first | ((with_reducible refine gate_dst (N := 3) rfl ?_); refine box_event ?hg (N := 3) ?hd (cs := #[.int .i64 a0_0, .slice A0_1 l0_1.length c0_1]) (t := 25) ?hr ?_; (case hd => rfl); (case hg => rfl); (case hr => exact zz14); intro gb101 hg w5 hbox hb; have n_ := zA4 (below_step zz1 hb) hbox (zz11 : w.heap.size ≤ gb101) (zz11 : w.heap.size ≤ gb101); clear HB; obtain ⟨HB, BK101, GW101, GE101⟩ := n_; clear hb hbox hg) | ((with_reducible refine gate_dst (N := 10) rfl ?_); refine Kd.R_lit (Kd.int .i64) _ 3 ?hg (N := 10) ?hd (xs := ([] : List Int)) (inner := []) (ok := fun _ => True) (okp := fun _ => True) ?hr ?hp (fun _ hk => hk) trivial (Below.refl _ _) (Nat.le_refl _) (by simp) ?_; (case hd => rfl); (case hg => rfl); (case hr => exact zz14); (case hp => exact (Reps.none _ _)); intro v103 w6 ho7 hb hg_ hnew_; clear hg_ hnew_; (first | rw [← Ny102.out] at ho7 | (simp only [Int.reduceToNat] at ho7; rw [← Ny102.out] at ho7)); have n_ := zA3 (Kd.R_lower ho7 (below_size zz0)) (blk_below (g := gb101) (o := .cells #[.int .i64 a0_0, .slice A0_1 l0_1.length c0_1] 25 (0, 0)) zz2 hb) (below_step zz0 hb); clear BK101 HB; obtain ⟨HO104, BK101, HB⟩ := n_; clear hb ho7) | ((with_reducible refine gate_builtin (b := .append) (xs := #[.tmp 10, .tmp 11]) rfl ?_); at_builtin; refine Kd.R_append_rows (Kd.int .i64) (w0 := w) w.heap.size rfl (.tmp 10) (.tmp 11) 28 3 (.int .i64 0) 8 rfl Try.underlying28 info3 rfl (by decide) (by omega) v103 y102 l1 _ _ _ (fun _ => True) (fun _ => False) rfl rfl ?aO ?aR (fun _ _ h => h) (fun _ h => h.elim) ?aF ?aB ?aS ?aL ?_; (case aR => exact zz10); (case aB => exact zz0); (case aF => exact (fun _ _ => trivial)); (case aO => exact zz35); (case aS => exact (below_size zz0)); (case aL => have := LMc4.out; omega); intro v106 w8 ho hb hg hat; rw [← Ny105.out] at ho; have n_ := zA3 (blk_grown (g := gb101) (o := .cells #[.int .i64 a0_0, .slice A0_1 l0_1.length c0_1] 25 (0, 0)) zz2 hg (Kd.R_ne HO104.out BK101.out (by decide))) hb ho; clear BK101 HB HO104; obtain ⟨BK101, HB, HO107⟩ := n_; clear ho hb hg hat; have hcz9_0 := zC20 BK101; have hcz9_1 := zC21 BK101; have hfz9_0 := blk_frozen BK101.out 0; have hfz9_1 := blk_frozen BK101.out 1))); (go_loopg [16] k (fun kq v16 w' => ∃ (x7_1 : List Int) (x16_1 : Int), v16 = .int .i64 x16_1 ∧ Aside0 (spec_l04Fire.l0 kq l2 x7_1 l0_1 (l0_1.length : Int) x16_1 = some r) ∧ Aside0 (kq ≤ k) ∧ Aside0 (Kd.R (Kd.int .i64) 3 w' w.heap.size (fun _ => True) v106 x7_1) ∧ Aside0 (w'.heap[gb101]? = some (.cells #[.int .i64 a0_0, (.slice A0_1 l0_1.length c0_1)] 25 (0, 0))) ∧ Aside0 (Below w.heap.size w w'))); case atStart => exact ⟨(y105), (0), zz8, H', ⟨Nat.le_refl _⟩, ⟨by (with_reducible repeat (first | apply Kd.R_alloc | apply Kd.R_drewN | apply Kd.R_drew)); exact HO107.out⟩, ⟨zz2⟩, ⟨zz0⟩⟩
 case round =>
  clear H'; (try clear c1); (try clear c2); (try clear p2); (try clear c4); (try clear c9); (try clear hcz9_0); (try clear hcz9_1); (try clear hfz9_0); (try clear hfz9_1); obtain ⟨x7_1, x16_1, rfl, HA, HK1, HO_7, BK101, HB⟩ := hrel
  cases gk with
  | zero => exact absurd HA.out (by simp [spec_l04Fire.l0])
  | succ k1 =>
   have H := HA.out; clear HA; simp only [spec_l04Fire.l0] at H; by_cases c10 : x16_1 < (l0_1.length : Int); rotate_left
   ·rw [if_neg c10] at H; have c10b0 := decide_eq_false c10; clear c10; obtain rfl := Option.some.inj H; go_wp2; go_ret; exact ⟨_, zz6, by (with_reducible repeat (first | apply Kd.R_alloc | apply Kd.R_drewN | apply Kd.R_drew)); exact HO_7.out, zz0⟩
   rw [if_pos c10] at H; have c10b0 := decide_eq_true c10; clear c10; by_cases c11 : 0 ≤ x16_1; rotate_left
   ·rw [if_neg c11] at H; exact absurd H (by simp)
   rw [if_pos c11] at H; have c11b0 := decide_eq_true c11; clear c11; by_cases c12 : x16_1 < (l0_1.length : Int); rotate_left
   ·rw [if_neg c12] at H; exact absurd H (by simp)
   rw [if_pos c12] at H; have c12b0 := decide_eq_true c12; clear c12; by_cases c13 : 0 ≤ ((rd_T83 l0_1 x16_1).f0); rotate_left
   ·rw [if_neg c13] at H; exact absurd H (by simp)
   rw [if_pos c13] at H; have c13b0 := decide_eq_true c13; clear c13; by_cases c14 : ((rd_T83 l0_1 x16_1).f0) < (x7_1.length : Int); rotate_left
   ·rw [if_neg c14] at H; exact absurd H (by simp)
   rw [if_pos c14] at H; have c14b0 := decide_eq_true c14; clear c14; by_cases c15 : ((rd_T83 l0_1 x16_1).f0) < (l2.length : Int); rotate_left
   ·rw [if_neg c15] at H; exact absurd H (by simp)
   rw [if_pos c15] at H; have c15b0 := decide_eq_true c15; clear c15; by_cases c16 : 0 ≤ ((rd_T83 l0_1 x16_1).f1); rotate_left
   ·rw [if_neg c16] at H; exact absurd H (by simp)
   rw [if_pos c16] at H; have c16b0 := decide_eq_true c16; clear c16; by_cases c17 : ((rd_T83 l0_1 x16_1).f1) < (l2.length : Int); rotate_left
   ·rw [if_neg c17] at H; exact absurd H (by simp)
   rw [if_pos c17] at H; have c17b0 := decide_eq_true c17; clear c17; obtain ⟨y113, hy_⟩ : ∃ y_ : List Int, y_ = (x7_1.set (((rd_T83 l0_1 x16_1).f0) : Int).toNat (wrap64 ((wrap64 ((rd x7_1 ((rd_T83 l0_1 x16_1).f0)) - (rd l2 ((rd_T83 l0_1 x16_1).f0)))) + (rd l2 ((rd_T83 l0_1 x16_1).f1))))) := ⟨_, rfl⟩; (replace H : (if ((rd_T83 l0_1 x16_1).f1) < (x7_1.length : Int) then (spec_l04Fire.l0 k1 l2 (y113.set (((rd_T83 l0_1 x16_1).f1) : Int).toNat (wrap64 ((wrap64 ((rd y113 ((rd_T83 l0_1 x16_1).f1)) - (rd l2 ((rd_T83 l0_1 x16_1).f1)))) + (rd l2 ((rd_T83 l0_1 x16_1).f0))))) l0_1 (l0_1.length : Int) (wrap64 (x16_1 + 1))) else (none)) = some r := zzY); have Ny113 := Aside0.mk hy_; clear hy_; by_cases c19 : ((rd_T83 l0_1 x16_1).f1) < (x7_1.length : Int); rotate_left
   ·rw [if_neg c19] at H; exact absurd H (by simp)
   rw [if_pos c19] at H; have c19b0 := decide_eq_true c19; clear c19; obtain ⟨y117, hy_⟩ : ∃ y_ : List Int, y_ = (y113.set (((rd_T83 l0_1 x16_1).f1) : Int).toNat (wrap64 ((wrap64 ((rd y113 ((rd_T83 l0_1 x16_1).f1)) - (rd l2 ((rd_T83 l0_1 x16_1).f1)))) + (rd l2 ((rd_T83 l0_1 x16_1).f0))))) := ⟨_, rfl⟩; (replace H : (spec_l04Fire.l0 k1 l2 y117 l0_1 (l0_1.length : Int) (wrap64 (x16_1 + 1))) = some r := zzY); have Ny117 := Aside0.mk hy_; clear hy_; have H' := Aside0.mk H; clear H; have p108 : 0 ≤ (x16_1 : Int) := of_decide_eq_true zz4; have q108 : x16_1 < (l0_1.length : Int) := of_decide_eq_true zz4; obtain ⟨ad108, e108, hx108_0, hx108_1⟩ := at_T83 HR0_1.out x16_1 p108 q108; cases e108; replace hx108_0 := (HB.out.cell (World.block_lt_of_cell? w _ hx108_0)).trans hx108_0; replace hx108_1 := (HB.out.cell (World.block_lt_of_cell? w _ hx108_1)).trans hx108_1; replace p108 := eq_true p108; replace q108 := eq_true q108; (try go_wp2_with (first | ((with_reducible refine gate_dst (N := 9) rfl ?_); refine box_event ?hg (N := 9) ?hd (cs := #[.int .i64 0, .int .i64 0]) (t := 83) ?hr ?_; (case hd => rfl); (case hg => rfl); (case hr => exact zz14); intro gb109 hg w21 hbox hb; have n_ := zA8 (Kd.R_below (by (with_reducible repeat (first | apply Kd.R_alloc | apply Kd.R_drewN | apply Kd.R_drew)); exact HO_7.out) hb) (blk_below (g := gb101) (o := .cells #[.int .i64 a0_0, .slice (some ad108) l0_1.length c0_1] 25 (0, 0)) zz2 hb) (below_step zz0 hb) hbox (zz15 : w.heap.size ≤ gb109) (zz15 : w.heap.size ≤ gb109) (by rw [hg]; exact Nat.ne_of_lt (blk_lt (g := gb101) (o := .cells #[.int .i64 a0_0, .slice (some ad108) l0_1.length c0_1] 25 (0, 0)) zz2) : gb101 ≠ gb109) (by rw [hg]; exact Nat.ne_of_gt (blk_lt (g := gb101) (o := .cells #[.int .i64 a0_0, .slice (some ad108) l0_1.length c0_1] 25 (0, 0)) zz2) : gb109 ≠ gb101); clear HO_7 BK101 HB; obtain ⟨HO_7, BK101, HB, BK109, GW109, GE109, NB101_109, NB109_101⟩ := n_; clear hb hbox hg; have hnb22 := NB109_101.out; have hnc22 := NB101_109.out; have hcz23_0 := zC20 BK109; have hcz23_1 := zC21 BK109; have hfz23_0 := blk_frozen BK109.out 0; have hfz23_1 := blk_frozen BK109.out 1))); have n0_ : Aside0 (Kd.R (Kd.int .i64) 3 ((w21.setCell ⟨gb109, 0, none⟩ (.int .i64 ((rd_T83 l0_1 x16_1).f0))).setCell ⟨gb109, 1, none⟩ (.int .i64 ((rd_T83 l0_1 x16_1).f1))) w.heap.size (fun _ => True) v106 x7_1) := ⟨by (with_reducible repeat (first | apply Kd.R_alloc | apply Kd.R_drewN | apply Kd.R_drew)); exact Kd.R_mono (Kd.R_far (p := ⟨gb109, 1, none⟩) (Kd.R_far (p := ⟨gb109, 0, none⟩) (Kd.R_types HO_7.out BK109.out (by decide)) (fun _ hk => hk.2) (.int .i64 ((rd_T83 l0_1 x16_1).f0))) (fun _ hk => hk.2) (.int .i64 ((rd_T83 l0_1 x16_1).f1))) (fun _ hk => trivial)⟩; have n1_ : Aside0 (((w21.setCell ⟨gb109, 0, none⟩ (.int .i64 ((rd_T83 l0_1 x16_1).f0))).setCell ⟨gb109, 1, none⟩ (.int .i64 ((rd_T83 l0_1 x16_1).f1))).heap[gb101]? = some (.cells #[.int .i64 a0_0, .slice (some ad108) l0_1.length c0_1] 25 (0, 0))) := ⟨by (with_reducible repeat (first | refine blk_drewN ?_ _ | refine blk_drew ?_ | refine blk_alloc ?_ _)); refine blk_far ?_ NB101_109.out _; (with_reducible repeat (first | refine blk_drewN ?_ _ | refine blk_drew ?_ | refine blk_alloc ?_ _)); refine blk_far ?_ NB101_109.out _; (with_reducible repeat (first | refine blk_drewN ?_ _ | refine blk_drew ?_ | refine blk_alloc ?_ _)); exact BK101.out⟩; have n2_ : Aside0 (((w21.setCell ⟨gb109, 0, none⟩ (.int .i64 ((rd_T83 l0_1 x16_1).f0))).setCell ⟨gb109, 1, none⟩ (.int .i64 ((rd_T83 l0_1 x16_1).f1))).heap[gb109]? = some (.cells #[.int .i64 ((rd_T83 l0_1 x16_1).f0), .int .i64 ((rd_T83 l0_1 x16_1).f1)] 83 (0, 0))) := ⟨by (with_reducible repeat (first | refine blk_drewN ?_ _ | refine blk_drew ?_ | refine blk_alloc ?_ _)); refine blk_put (cs := #[.int .i64 ((rd_T83 l0_1 x16_1).f0), .int .i64 0]) ?_ 1 _ rfl; (with_reducible repeat (first | refine blk_drewN ?_ _ | refine blk_drew ?_ | refine blk_alloc ?_ _)); refine blk_put (cs := #[.int .i64 0, .int .i64 0]) ?_ 0 _ rfl; (with_reducible repeat (first | refine blk_drewN ?_ _ | refine blk_drew ?_ | refine blk_alloc ?_ _)); exact BK109.out⟩; have n3_ : Aside0 (Below w.heap.size w ((w21.setCell ⟨gb109, 0, none⟩ (.int .i64 ((rd_T83 l0_1 x16_1).f0))).setCell ⟨gb109, 1, none⟩ (.int .i64 ((rd_T83 l0_1 x16_1).f1)))) := ⟨by repeat (first | (with_reducible first | exact HB.out | apply below_alloc | apply pw_below_drewN | apply below_drew1 | refine below_set ?_ GE101.out | refine below_set ?_ GE109.out) | exact HB.out)⟩; (try clear HO_7); (try clear BK101); (try clear BK109); (try clear HB); generalize ((w21.setCell ⟨gb109, 0, none⟩ (.int .i64 ((rd_T83 l0_1 x16_1).f0))).setCell ⟨gb109, 1, none⟩ (.int .i64 ((rd_T83 l0_1 x16_1).f1))) = w24 at n0_ n1_ n2_ n3_ ⊢; have HO_7 := n0_; have BK101 := n1_; have BK109 := n2_; have HB := n3_; clear n0_ n1_ n2_ n3_; have n_ := zA4 (Kd.R_drew HO_7.out) (blk_drew BK101.out) (blk_drew BK109.out) (below_drew1 HB.out); clear HO_7 BK101 BK109 HB; obtain ⟨HO_7, BK101, BK109, HB⟩ := n_; obtain ⟨Ao26, co26, eo26⟩ := Kd.R_slice HO_7.out; (first | subst eo26 | (injection eo26 with f1_ f2_ f3_; have f4_ := f1_.symm; have f5_ := f3_.symm; clear f1_ f2_ f3_; subst f4_; subst f5_)); have p110 : 0 ≤ (((rd_T83 l0_1 x16_1).f0) : Int) := of_decide_eq_true zz4; have q110 : ((rd_T83 l0_1 x16_1).f0) < (x7_1.length : Int) := of_decide_eq_true zz4; obtain ⟨ad110, e110, hx110_0⟩ := Kd.at_int (Kd.R_reads' HO_7.out).2.2 ((rd_T83 l0_1 x16_1).f0) p110 q110; cases e110; replace p110 := eq_true p110; replace q110 := eq_true q110; have p111 : 0 ≤ (((rd_T83 l0_1 x16_1).f0) : Int) := of_decide_eq_true zz4; have q111 : ((rd_T83 l0_1 x16_1).f0) < (l2.length : Int) := of_decide_eq_true zz4; obtain ⟨ad111, e111, hx111_0⟩ := Kd.at_int HR2.out ((rd_T83 l0_1 x16_1).f0) p111 q111; have hw111_0 := hx111_0; cases e111; replace hx111_0 := (HB.out.cell (World.block_lt_of_cell? w _ hx111_0)).trans hx111_0; replace p111 := eq_true p111; replace q111 := eq_true q111; have p112 : 0 ≤ (((rd_T83 l0_1 x16_1).f1) : Int) := of_decide_eq_true zz4; have q112 : ((rd_T83 l0_1 x16_1).f1) < (l2.length : Int) := of_decide_eq_true zz4; obtain ⟨ad112, e112, hx112_0⟩ := Kd.at_int HR2.out ((rd_T83 l0_1 x16_1).f1) p112 q112; have hw112_0 := hx112_0; obtain rfl : ad111 = ad112 := (by injection e112); replace hx112_0 := (HB.out.cell (World.block_lt_of_cell? w _ hx112_0)).trans hx112_0; replace p112 := eq_true p112; replace q112 := eq_true q112; have p18 : 0 ≤ (((rd_T83 l0_1 x16_1).f0) : Int) := of_decide_eq_true zz4; have q18 : (((rd_T83 l0_1 x16_1).f0) : Int) < ((x7_1.length : Int) : Int) := of_decide_eq_true zz4; obtain ⟨go18, co18, eo18, gb18, gl18, cl18, HG18⟩ := Kd.R_form HO_7.out (by omega); (first | cases eo18 | (injection eo18 with ea_ en_ ec_; (first | subst ea_ | (injection ea_ with ea_; subst ea_)); subst ec_; clear en_)); have GB18 := Aside0.mk gb18; have GG18 := Aside0.mk HG18; clear gb18 gl18 HG18; (first | simp only [add_plain] at hx110_0 | skip); obtain ⟨hx18_0, hf18_0⟩ := Kd.R_celln 0 HO_7.out (((rd_T83 l0_1 x16_1).f0) : Int) p18 q18; replace p18 := eq_true p18; replace q18 := eq_true q18; have HP27 := Kd.R_putn HO_7.out (((rd_T83 l0_1 x16_1).f0) : Int) (wrap64 ((wrap64 ((rd x7_1 ((rd_T83 l0_1 x16_1).f0)) - (rd l2 ((rd_T83 l0_1 x16_1).f0)))) + (rd l2 ((rd_T83 l0_1 x16_1).f1)))); rw [← Ny113.out] at HP27; have HQ27 := Aside0.mk HP27; clear HP27; refine start_ (n := 22) (S := fun w' => w'.cell? ⟨gb109, 0, none⟩ = some (.int .i64 ((rd_T83 l0_1 x16_1).f0)) ∧ w'.cell? ⟨gb109, 1, none⟩ = some (.int .i64 ((rd_T83 l0_1 x16_1).f1)) ∧ w'.cell? ⟨go18, (((rd_T83 l0_1 x16_1).f0)).toNat, none⟩ = some (.int .i64 (rd x7_1 ((rd_T83 l0_1 x16_1).f0))) ∧ w'.cell? (ad111.add (((rd_T83 l0_1 x16_1).f0)).toNat) = some (.int .i64 (rd l2 ((rd_T83 l0_1 x16_1).f0))) ∧ w'.cell? (ad111.add (((rd_T83 l0_1 x16_1).f1)).toNat) = some (.int .i64 (rd l2 ((rd_T83 l0_1 x16_1).f1)))) (ds := [21]) (zM 22 0) (by kernel_rfl) rfl rfl ⟨(blk_cell BK109.out 0).trans rfl, (blk_cell BK109.out 1).trans rfl, hx110_0, ((HB.out.cell (World.block_lt_of_cell? w _ hw111_0)).trans hw111_0), ((HB.out.cell (World.block_lt_of_cell? w _ hw112_0)).trans hw112_0)⟩ (fun hHeld => ?_); refine with_tabW spec_l04Fire.tab5 spec_l04Fire.bits5 (fun HT_ HW_ => ?_); generalize w24.drew = w25 at HO_7 BK101 BK109 HB GG18 HQ27 hf18_0 hx110_0 hx111_0 hx112_0 hx18_0 hHeld ⊢; refine zP 0 20 ?_ (zM 22 1) rfl rfl HT_.out ?_ ?_ ?_ ?_; rotate_left; exact fun _ => zzT; rotate_left; exact zzS
   refine zP 1 21 ?_ (zM 22 3) rfl rfl HT_.out ?_ ?_ ?_ ?_; rotate_left; exact fun _ => zzT; rotate_left; exact zzS
   refine zP 3 23 ?_ (zM 22 11) rfl rfl HT_.out ?_ ?_ ?_ ?_; rotate_left; exact fun _ => zzT; rotate_left; exact zzS
   refine zP 4 24 ?_ (zM 22 27) rfl rfl HT_.out ?_ ?_ ?_ ?_; rotate_left; exact fun _ => zzT; rotate_left; exact zzS
   refine zP 8 28 ?_ (zM 22 283) rfl rfl HT_.out ?_ ?_ ?_ ?_; rotate_left; exact fun _ => zzT; rotate_left; exact zzS
   refine zP 9 29 ?_ (zM 22 795) rfl rfl HT_.out ?_ ?_ ?_ ?_; rotate_left; exact fun _ => zzT; rotate_left; exact zzS
   refine zP 14 34 ?_ (zM 22 17179) rfl rfl HT_.out ?_ ?_ ?_ ?_; rotate_left; exact fun _ => zzT; rotate_left; exact zzS
   refine zP 15 35 ?_ (zM 22 49947) rfl rfl HT_.out ?_ ?_ ?_ ?_; rotate_left; exact fun _ => zzT; rotate_left; exact zzS
   refine take_ (i := 2) (N := some 22) (v := ?_) (a' := ?_) (zM 22 49951) rfl rfl (take_ofW HT_.out HW_.out (by kernel_rfl)) (fun _ _ _ h => h) (Or.inl ⟨by rfl, ?_⟩) hHeld ?_ ?_; rotate_left
   ·rintro w' ⟨s0, s1, s2, s3, s4⟩; exact zzT
   rotate_left
   ·exact zzS
   refine take_ (i := 5) (N := some 25) (v := ?_) (a' := ?_) (zM 22 49983) rfl rfl (take_ofW HT_.out HW_.out (by kernel_rfl)) (fun _ _ _ h => h) (Or.inl ⟨by rfl, ?_⟩) hHeld ?_ ?_; rotate_left
   ·rintro w' ⟨s0, s1, s2, s3, s4⟩; exact zzT
   rotate_left
   ·exact zzS
   refine zP 6 26 ?_ (zM 22 50047) rfl rfl HT_.out ?_ ?_ ?_ ?_; rotate_left; exact fun _ => zzT; rotate_left; exact zzS
   refine take_ (i := 7) (N := some 27) (v := ?_) (a' := ?_) (zM 22 50175) rfl rfl (take_ofW HT_.out HW_.out (by kernel_rfl)) (fun _ _ _ h => h) (Or.inl ⟨by rfl, ?_⟩) hHeld ?_ ?_; rotate_left
   ·rintro w' ⟨s0, s1, s2, s3, s4⟩; exact zzT
   rotate_left
   ·exact zzS
   refine take_ (i := 10) (N := some 30) (v := ?_) (a' := ?_) (zM 22 51199) rfl rfl (take_ofW HT_.out HW_.out (by kernel_rfl)) (fun _ _ _ h => h) (Or.inl ⟨by rfl, ?_⟩) hHeld ?_ ?_; rotate_left
   ·rintro w' ⟨s0, s1, s2, s3, s4⟩; exact zzT
   rotate_left
   ·exact zzS
   refine zP 11 31 ?_ (zM 22 53247) rfl rfl HT_.out ?_ ?_ ?_ ?_; rotate_left; exact fun _ => zzT; rotate_left; exact zzS
   refine take_ (i := 12) (N := some 32) (v := ?_) (a' := ?_) (zM 22 57343) rfl rfl (take_ofW HT_.out HW_.out (by kernel_rfl)) (fun _ _ _ h => h) (Or.inl ⟨by rfl, ?_⟩) hHeld ?_ ?_; rotate_left
   ·rintro w' ⟨s0, s1, s2, s3, s4⟩; exact zzT
   rotate_left
   ·exact zzS
   refine zP 13 33 ?_ (zM 22 65535) rfl rfl HT_.out ?_ ?_ ?_ ?_; rotate_left; exact fun _ => zzT; rotate_left; exact zzS
   refine take_ (i := 16) (N := some 36) (v := ?_) (a' := ?_) (zM 22 131071) rfl rfl (take_ofW HT_.out HW_.out (by kernel_rfl)) (fun _ _ _ h => h) (Or.inl ⟨by rfl, ?_⟩) hHeld ?_ ?_; rotate_left
   ·rintro w' ⟨s0, s1, s2, s3, s4⟩; exact zzT
   rotate_left
   ·exact zzS
   refine zP 17 37 ?_ (zM 22 262143) rfl rfl HT_.out ?_ ?_ ?_ ?_; rotate_left; exact fun _ => zzT; rotate_left; exact zzS
   refine take_ (i := 18) (N := some 38) (v := ?_) (a' := ?_) (zM 22 524287) rfl rfl (take_ofW HT_.out HW_.out (by kernel_rfl)) (fun _ _ _ h => h) (Or.inl ⟨by rfl, ?_⟩) hHeld ?_ ?_; rotate_left
   ·rintro w' ⟨s0, s1, s2, s3, s4⟩; exact zzT
   rotate_left
   ·exact zzS
   refine zP 19 39 ?_ (zM 22 1048575) rfl rfl HT_.out ?_ ?_ ?_ ?_; rotate_left; exact fun _ => zzT; rotate_left; exact zzS
   refine zP 20 40 ?_ (zM 22 2097151) rfl rfl HT_.out ?_ ?_ ?_ ?_; rotate_left; exact fun _ => zzT; rotate_left; exact zzS
   refine last_ (i := 21) (N := none) (zM 22 4194303) rfl rfl (one_of HT_.out (by kernel_rfl)) (by decide) (fun K hK => ?_); refine skip_ (w1 := ?_) (by rfl) rfl ?_ ?_; rotate_left
   ·go_simp; rfl
   refine hK.out _ _ ?_; clear hK K; refine done_ (done_of HT_.out (by kernel_rfl)) ?_; (try go_wp2); have n0_ : Aside0 (Kd.R (Kd.int .i64) 3 (w25.setCell ⟨go18, (((rd_T83 l0_1 x16_1).f0) : Int).toNat, none⟩ (.int .i64 (wrap64 ((wrap64 ((rd x7_1 ((rd_T83 l0_1 x16_1).f0)) - (rd l2 ((rd_T83 l0_1 x16_1).f0)))) + (rd l2 ((rd_T83 l0_1 x16_1).f1)))))) w.heap.size (fun _ => True) (.slice (some ⟨go18, 0, none⟩) x7_1.length co26) y113) := ⟨by (with_reducible repeat (first | apply Kd.R_alloc | apply Kd.R_drewN | apply Kd.R_drew)); exact HQ27.out⟩; have n1_ : Aside0 ((w25.setCell ⟨go18, (((rd_T83 l0_1 x16_1).f0) : Int).toNat, none⟩ (.int .i64 (wrap64 ((wrap64 ((rd x7_1 ((rd_T83 l0_1 x16_1).f0)) - (rd l2 ((rd_T83 l0_1 x16_1).f0)))) + (rd l2 ((rd_T83 l0_1 x16_1).f1)))))).heap[gb101]? = some (.cells #[.int .i64 a0_0, .slice (some ad108) l0_1.length c0_1] 25 (0, 0))) := ⟨zz65⟩; have n2_ : Aside0 ((w25.setCell ⟨go18, (((rd_T83 l0_1 x16_1).f0) : Int).toNat, none⟩ (.int .i64 (wrap64 ((wrap64 ((rd x7_1 ((rd_T83 l0_1 x16_1).f0)) - (rd l2 ((rd_T83 l0_1 x16_1).f0)))) + (rd l2 ((rd_T83 l0_1 x16_1).f1)))))).heap[gb109]? = some (.cells #[.int .i64 ((rd_T83 l0_1 x16_1).f0), .int .i64 ((rd_T83 l0_1 x16_1).f1)] 83 (0, 0))) := ⟨by (with_reducible repeat (first | refine blk_drewN ?_ _ | refine blk_drew ?_ | refine blk_alloc ?_ _)); refine blk_far ?_ (by have h_ := Kd.R_ne HO_7.out BK109.out (by decide); intro e_; exact h_ (by rw [e_]; rfl)) _; (with_reducible repeat (first | refine blk_drewN ?_ _ | refine blk_drew ?_ | refine blk_alloc ?_ _)); exact BK109.out⟩; have n3_ : Aside0 (Below w.heap.size w (w25.setCell ⟨go18, (((rd_T83 l0_1 x16_1).f0) : Int).toNat, none⟩ (.int .i64 (wrap64 ((wrap64 ((rd x7_1 ((rd_T83 l0_1 x16_1).f0)) - (rd l2 ((rd_T83 l0_1 x16_1).f0)))) + (rd l2 ((rd_T83 l0_1 x16_1).f1))))))) := ⟨by repeat (first | (with_reducible first | exact HB.out | apply below_alloc | apply pw_below_drewN | apply below_drew1 | refine below_set ?_ GB18.out | refine below_set ?_ GE101.out | refine below_set ?_ GE109.out) | exact HB.out)⟩; (try clear HO_7); (try clear BK101); (try clear BK109); (try clear HB); generalize (w25.setCell ⟨go18, (((rd_T83 l0_1 x16_1).f0) : Int).toNat, none⟩ (.int .i64 (wrap64 ((wrap64 ((rd x7_1 ((rd_T83 l0_1 x16_1).f0)) - (rd l2 ((rd_T83 l0_1 x16_1).f0)))) + (rd l2 ((rd_T83 l0_1 x16_1).f1)))))) = w28 at n0_ n1_ n2_ n3_ ⊢; have HO_7 := n0_; have BK101 := n1_; have BK109 := n2_; have HB := n3_; clear n0_ n1_ n2_ n3_; have n_ := zA4 (Kd.R_drew HO_7.out) (blk_drew BK101.out) (blk_drew BK109.out) (below_drew1 HB.out); clear HO_7 BK101 BK109 HB; obtain ⟨HO_7, BK101, BK109, HB⟩ := n_; have p114 : 0 ≤ (((rd_T83 l0_1 x16_1).f1) : Int) := of_decide_eq_true zz4; have q114 : ((rd_T83 l0_1 x16_1).f1) < (y113.length : Int) := (by have h_ : (((rd_T83 l0_1 x16_1).f1) : Int) < ((x7_1.length : Int) : Int) := of_decide_eq_true zz4; first | (have e_ := (Kd.R_reads' HO_7.out).1; omega) | simpa only [Ny113.out, List.length_set] using h_); have ql114 : ((((rd_T83 l0_1 x16_1).f1) : Int) < ((x7_1.length : Int) : Int)) = True := eq_true (of_decide_eq_true zz4); obtain ⟨ad114, e114, hx114_0⟩ := Kd.at_int (Kd.R_reads' HO_7.out).2.2 ((rd_T83 l0_1 x16_1).f1) p114 q114; obtain rfl : (⟨go18, 0, none⟩ : Addr) = ad114 := (by injection e114); (first | simp only [add_plain] at hx114_0 | simp only [add_at] at hx114_0 | simp only [Addr.add, Nat.zero_add] at hx114_0 | skip); replace p114 := eq_true p114; replace q114 := eq_true q114; have p115 : 0 ≤ (((rd_T83 l0_1 x16_1).f1) : Int) := of_decide_eq_true zz4; have q115 : ((rd_T83 l0_1 x16_1).f1) < (l2.length : Int) := of_decide_eq_true zz4; obtain ⟨ad115, e115, hx115_0⟩ := Kd.at_int HR2.out ((rd_T83 l0_1 x16_1).f1) p115 q115; have hw115_0 := hx115_0; obtain rfl : ad111 = ad115 := (by injection e115); replace hx115_0 := (HB.out.cell (World.block_lt_of_cell? w _ hx115_0)).trans hx115_0; replace p115 := eq_true p115; replace q115 := eq_true q115; have p116 : 0 ≤ (((rd_T83 l0_1 x16_1).f0) : Int) := of_decide_eq_true zz4; have q116 : ((rd_T83 l0_1 x16_1).f0) < (l2.length : Int) := of_decide_eq_true zz4; obtain ⟨ad116, e116, hx116_0⟩ := Kd.at_int HR2.out ((rd_T83 l0_1 x16_1).f0) p116 q116; have hw116_0 := hx116_0; obtain rfl : ad111 = ad116 := (by injection e116); replace hx116_0 := (HB.out.cell (World.block_lt_of_cell? w _ hx116_0)).trans hx116_0; replace p116 := eq_true p116; replace q116 := eq_true q116; have p20 : 0 ≤ (((rd_T83 l0_1 x16_1).f1) : Int) := of_decide_eq_true zz4; have q20 : (((rd_T83 l0_1 x16_1).f1) : Int) < ((x7_1.length : Int) : Int) := of_decide_eq_true zz4; obtain ⟨hx20_0, hf20_0⟩ := Kd.R_celln 0 HO_7.out (((rd_T83 l0_1 x16_1).f1) : Int) p20 q20; replace p20 := eq_true p20; replace q20 := eq_true q20; have HP30 := Kd.R_putn HO_7.out (((rd_T83 l0_1 x16_1).f1) : Int) (wrap64 ((wrap64 ((rd y113 ((rd_T83 l0_1 x16_1).f1)) - (rd l2 ((rd_T83 l0_1 x16_1).f1)))) + (rd l2 ((rd_T83 l0_1 x16_1).f0)))); rw [← Ny117.out] at HP30; have HQ30 := Aside0.mk HP30; clear HP30; refine start_ (n := 22) (S := fun w' => w'.cell? ⟨gb109, 0, none⟩ = some (.int .i64 ((rd_T83 l0_1 x16_1).f0)) ∧ w'.cell? ⟨gb109, 1, none⟩ = some (.int .i64 ((rd_T83 l0_1 x16_1).f1)) ∧ w'.cell? ⟨go18, (((rd_T83 l0_1 x16_1).f1)).toNat, none⟩ = some (.int .i64 (rd y113 ((rd_T83 l0_1 x16_1).f1))) ∧ w'.cell? (ad111.add (((rd_T83 l0_1 x16_1).f1)).toNat) = some (.int .i64 (rd l2 ((rd_T83 l0_1 x16_1).f1))) ∧ w'.cell? (ad111.add (((rd_T83 l0_1 x16_1).f0)).toNat) = some (.int .i64 (rd l2 ((rd_T83 l0_1 x16_1).f0)))) (ds := [21]) (zM 22 0) (by kernel_rfl) rfl rfl ⟨(blk_cell BK109.out 0).trans rfl, (blk_cell BK109.out 1).trans rfl, hx114_0, ((HB.out.cell (World.block_lt_of_cell? w _ hw115_0)).trans hw115_0), ((HB.out.cell (World.block_lt_of_cell? w _ hw116_0)).trans hw116_0)⟩ (fun hHeld => ?_); refine with_tabW spec_l04Fire.tab6 spec_l04Fire.bits6 (fun HT_ HW_ => ?_); generalize w28.drew = w29 at HO_7 BK101 BK109 HB HQ27 HQ30 hf20_0 hx114_0 hx115_0 hx116_0 hx20_0 hHeld ⊢; refine zP 0 41 ?_ (zM 22 1) rfl rfl HT_.out ?_ ?_ ?_ ?_; rotate_left; exact fun _ => zzT; rotate_left; exact zzS
   refine zP 1 42 ?_ (zM 22 3) rfl rfl HT_.out ?_ ?_ ?_ ?_; rotate_left; exact fun _ => zzT; rotate_left; exact zzS
   refine zP 3 44 ?_ (zM 22 11) rfl rfl HT_.out ?_ ?_ ?_ ?_; rotate_left; exact fun _ => zzT; rotate_left; exact zzS
   refine zP 4 45 ?_ (zM 22 27) rfl rfl HT_.out ?_ ?_ ?_ ?_; rotate_left; exact fun _ => zzT; rotate_left; exact zzS
   refine zP 8 49 ?_ (zM 22 283) rfl rfl HT_.out ?_ ?_ ?_ ?_; rotate_left; exact fun _ => zzT; rotate_left; exact zzS
   refine zP 9 50 ?_ (zM 22 795) rfl rfl HT_.out ?_ ?_ ?_ ?_; rotate_left; exact fun _ => zzT; rotate_left; exact zzS
   refine zP 14 55 ?_ (zM 22 17179) rfl rfl HT_.out ?_ ?_ ?_ ?_; rotate_left; exact fun _ => zzT; rotate_left; exact zzS
   refine zP 15 56 ?_ (zM 22 49947) rfl rfl HT_.out ?_ ?_ ?_ ?_; rotate_left; exact fun _ => zzT; rotate_left; exact zzS
   refine take_ (i := 2) (N := some 43) (v := ?_) (a' := ?_) (zM 22 49951) rfl rfl (take_ofW HT_.out HW_.out (by kernel_rfl)) (fun _ _ _ h => h) (Or.inl ⟨by rfl, ?_⟩) hHeld ?_ ?_; rotate_left
   ·rintro w' ⟨s0, s1, s2, s3, s4⟩; exact zzT
   rotate_left
   ·exact zzS
   refine take_ (i := 5) (N := some 46) (v := ?_) (a' := ?_) (zM 22 49983) rfl rfl (take_ofW HT_.out HW_.out (by kernel_rfl)) (fun _ _ _ h => h) (Or.inl ⟨by rfl, ?_⟩) hHeld ?_ ?_; rotate_left
   ·rintro w' ⟨s0, s1, s2, s3, s4⟩; exact zzT
   rotate_left
   ·exact zzS
   refine zP 6 47 ?_ (zM 22 50047) rfl rfl HT_.out ?_ ?_ ?_ ?_; rotate_left; exact fun _ => zzT; rotate_left; exact zzS
   refine take_ (i := 7) (N := some 48) (v := ?_) (a' := ?_) (zM 22 50175) rfl rfl (take_ofW HT_.out HW_.out (by kernel_rfl)) (fun _ _ _ h => h) (Or.inl ⟨by rfl, ?_⟩) hHeld ?_ ?_; rotate_left
   ·rintro w' ⟨s0, s1, s2, s3, s4⟩; exact zzT
   rotate_left
   ·exact zzS
   refine take_ (i := 10) (N := some 51) (v := ?_) (a' := ?_) (zM 22 51199) rfl rfl (take_ofW HT_.out HW_.out (by kernel_rfl)) (fun _ _ _ h => h) (Or.inl ⟨by rfl, ?_⟩) hHeld ?_ ?_; rotate_left
   ·rintro w' ⟨s0, s1, s2, s3, s4⟩; exact zzT
   rotate_left
   ·exact zzS
   refine zP 11 52 ?_ (zM 22 53247) rfl rfl HT_.out ?_ ?_ ?_ ?_; rotate_left; exact fun _ => zzT; rotate_left; exact zzS
   refine take_ (i := 12) (N := some 53) (v := ?_) (a' := ?_) (zM 22 57343) rfl rfl (take_ofW HT_.out HW_.out (by kernel_rfl)) (fun _ _ _ h => h) (Or.inl ⟨by rfl, ?_⟩) hHeld ?_ ?_; rotate_left
   ·rintro w' ⟨s0, s1, s2, s3, s4⟩; exact zzT
   rotate_left
   ·exact zzS
   refine zP 13 54 ?_ (zM 22 65535) rfl rfl HT_.out ?_ ?_ ?_ ?_; rotate_left; exact fun _ => zzT; rotate_left; exact zzS
   refine take_ (i := 16) (N := some 57) (v := ?_) (a' := ?_) (zM 22 131071) rfl rfl (take_ofW HT_.out HW_.out (by kernel_rfl)) (fun _ _ _ h => h) (Or.inl ⟨by rfl, ?_⟩) hHeld ?_ ?_; rotate_left
   ·rintro w' ⟨s0, s1, s2, s3, s4⟩; exact zzT
   rotate_left
   ·exact zzS
   refine zP 17 58 ?_ (zM 22 262143) rfl rfl HT_.out ?_ ?_ ?_ ?_; rotate_left; exact fun _ => zzT; rotate_left; exact zzS
   refine take_ (i := 18) (N := some 59) (v := ?_) (a' := ?_) (zM 22 524287) rfl rfl (take_ofW HT_.out HW_.out (by kernel_rfl)) (fun _ _ _ h => h) (Or.inl ⟨by rfl, ?_⟩) hHeld ?_ ?_; rotate_left
   ·rintro w' ⟨s0, s1, s2, s3, s4⟩; exact zzT
   rotate_left
   ·exact zzS
   refine zP 19 60 ?_ (zM 22 1048575) rfl rfl HT_.out ?_ ?_ ?_ ?_; rotate_left; exact fun _ => zzT; rotate_left; exact zzS
   refine zP 20 61 ?_ (zM 22 2097151) rfl rfl HT_.out ?_ ?_ ?_ ?_; rotate_left; exact fun _ => zzT; rotate_left; exact zzS
   refine last_ (i := 21) (N := none) (zM 22 4194303) rfl rfl (one_of HT_.out (by kernel_rfl)) (by decide) (fun K hK => ?_); refine skip_ (w1 := ?_) (by rfl) rfl ?_ ?_; rotate_left
   ·go_simp; rfl
   refine hK.out _ _ ?_; clear hK K; refine done_ (done_of HT_.out (by kernel_rfl)) ?_; (try go_wp2); go_roundg k1; (case measure => have := HK1.out; omega); case rel => exact ⟨(y117), (wrap64 (x16_1 + 1)), zz8, H', ⟨zz41⟩, ⟨by (with_reducible repeat (first | apply Kd.R_alloc | apply Kd.R_drewN | apply Kd.R_drew)); exact HQ30.out⟩, ⟨zz65⟩, ⟨by repeat (first | (with_reducible first | exact HB.out | apply below_alloc | apply pw_below_drewN | apply below_drew1 | refine below_set ?_ GB18.out | refine below_set ?_ GE101.out | refine below_set ?_ GE109.out) | exact HB.out)⟩⟩
def spec_l10Topple.f (k : Nat) (a0_0 : Int) (l0_1 : List (S83)) (l1 : List Int) (a2 : Int) (a3 : Int) : Option (List Int) := if 0 ≤ a0_0 then (if (a0_0 : Int).toNat ≤ 35184372088832 then ((some (List.replicate (a0_0 : Int).toNat 0 : List Int)).bind fun y102 => (if 0 ≤ a3 then (if a3 < (y102.length : Int) then ((spec_l04Fire.f k a0_0 l0_1 l1 (y102.set (a3 : Int).toNat 1)).bind fun t106 => (if 0 ≤ a2 then (if a2 < (t106.length : Int) then (some (t106.set (a2 : Int).toNat 0)) else (none)) else (none))) else (none)) else (none))) else (none)) else (none)
theorem spec_l10Topple.mono : ∀ a0 a1 a2 a3 a4 k, LeO (spec_l10Topple.f k a0 a1 a2 a3 a4) (spec_l10Topple.f (k + 1) a0 a1 a2 a3 a4) := by
 intro a0 a1 a2 a3 a4 k; unfold spec_l10Topple.f; repeat' first | (with_reducible apply spec_l04Fire.mono) | (with_reducible exact LeO.refl _) | (with_reducible exact LeO.none _) | (with_reducible refine LeO.ite ?_ ?_) | (with_reducible refine LeO.bind ?_ (fun _ => ?_)) | apply spec_l04Fire.mono | exact LeO.none _ | refine LeO.ite ?_ ?_ | refine LeO.bind ?_ (fun _ => ?_)
set_option maxHeartbeats 8000000 in
set_option maxRecDepth 100000 in
theorem spec_l10Topple.calls (k : Nat) (a0_0 : Int) (A0_1 : Option Addr) (c0_1 : Nat) (l0_1 : List (S83)) (A1 : Option Addr) (c1 : Nat) (l1 : List Int) (a2 : Int) (a3 : Int) (r : List Int) (w : World) (hr0_1 : Kd.C k83 w A0_1 l0_1.length l0_1) (hc0_1 : l0_1.length ≤ c0_1) (hr1 : Kd.C (Kd.int .i64) w A1 l1.length l1) (hc1 : l1.length ≤ c1) (h : spec_l10Topple.f k a0_0 l0_1 l1 a2 a3 = some r) :
  Calls Try.prog 117 #[.agg #[.int .i64 a0_0, .slice A0_1 l0_1.length c0_1], .slice A1 l1.length c1, .int .i64 a2, .int .i64 a3] w fun e w' => ∃ v0_ : Value, e = .returned (v0_) ∧ Kd.R (Kd.int .i64) 3 w' w.heap.size (fun _ => True) v0_ r ∧ Below w.heap.size w w' := by
 have hu25 := Try.underlying25; have HR0_1 := Aside0.mk hr0_1; have HC0_1 := Aside0.mk hc0_1; clear hr0_1 hc0_1; have HR1 := Aside0.mk hr1; have HC1 := Aside0.mk hc1; clear hr1 hc1; have HB := Aside0.mk (Below.refl w.heap.size w); have H : (if 0 ≤ a0_0 then (if (a0_0 : Int).toNat ≤ 35184372088832 then ((some (List.replicate (a0_0 : Int).toNat 0 : List Int)).bind fun y102 => (if 0 ≤ a3 then (if a3 < (y102.length : Int) then ((spec_l04Fire.f k a0_0 l0_1 l1 (y102.set (a3 : Int).toNat 1)).bind fun t106 => (if 0 ≤ a2 then (if a2 < (t106.length : Int) then (some (t106.set (a2 : Int).toNat 0)) else (none)) else (none))) else (none)) else (none))) else (none)) else (none)) = some r := h; clear h; by_cases c5 : 0 ≤ a0_0; rotate_left
 ·rw [if_neg c5] at H; exact absurd H (by simp)
 rw [if_pos c5] at H; have c5b0 := eq_true c5; have c5b1 : decide (0 ≤ a0_0) = true := decide_eq_true c5; clear c5; by_cases c6 : (a0_0 : Int).toNat ≤ 35184372088832; rotate_left
 ·rw [if_neg c6] at H; exact absurd H (by simp)
 rw [if_pos c6] at H; have c6b0 := eq_true c6; have c6b1 : decide ((a0_0 : Int).toNat ≤ 35184372088832) = true := decide_eq_true c6; clear c6; obtain ⟨y102, hy_⟩ : ∃ y_ : List Int, y_ = (List.replicate (a0_0 : Int).toNat 0) := ⟨_, rfl⟩; (replace H : (if 0 ≤ a3 then (if a3 < (y102.length : Int) then ((spec_l04Fire.f k a0_0 l0_1 l1 (y102.set (a3 : Int).toNat 1)).bind fun t106 => (if 0 ≤ a2 then (if a2 < (t106.length : Int) then (some (t106.set (a2 : Int).toNat 0)) else (none)) else (none))) else (none)) else (none)) = some r := zzY); have Ny102 := Aside0.mk hy_; clear hy_; by_cases c7 : 0 ≤ a3; rotate_left
 ·rw [if_neg c7] at H; exact absurd H (by simp)
 rw [if_pos c7] at H; have c7b0 := decide_eq_true c7; clear c7; by_cases c8 : a3 < (y102.length : Int); rotate_left
 ·rw [if_neg c8] at H; exact absurd H (by simp)
 rw [if_pos c8] at H; have c8b0 := decide_eq_true c8; clear c8; obtain ⟨y105, hy_⟩ : ∃ y_ : List Int, y_ = (y102.set (a3 : Int).toNat 1) := ⟨_, rfl⟩; (replace H : ((spec_l04Fire.f k a0_0 l0_1 l1 y105).bind fun t106 => (if 0 ≤ a2 then (if a2 < (t106.length : Int) then (some (t106.set (a2 : Int).toNat 0)) else (none)) else (none))) = some r := zzY); have Ny105 := Aside0.mk hy_; clear hy_; replace H := Option.bind_eq_some_iff.mp H; obtain ⟨t106, A100, H⟩ := H; (try dsimp only at H); have A10 := Aside0.mk A100; clear A100; by_cases c11 : 0 ≤ a2; rotate_left
 ·rw [if_neg c11] at H; exact absurd H (by simp)
 rw [if_pos c11] at H; have c11b0 := decide_eq_true c11; clear c11; by_cases c12 : a2 < (t106.length : Int); rotate_left
 ·rw [if_neg c12] at H; exact absurd H (by simp)
 rw [if_pos c12] at H; have c12b0 := decide_eq_true c12; clear c12; obtain ⟨y109, hy_⟩ : ∃ y_ : List Int, y_ = (t106.set (a2 : Int).toNat 0) := ⟨_, rfl⟩; (replace H : (some y109) = some r := zzY); have Ny109 := Aside0.mk hy_; clear hy_; obtain rfl := Option.some.inj H; go_enter Try.func117, Try.ntmps117; (go_wp2_with (first | ((with_reducible refine gate_dst (N := 4) rfl ?_); refine box_event ?hg (N := 4) ?hd (cs := #[.int .i64 a0_0, .slice A0_1 l0_1.length c0_1]) (t := 25) ?hr ?_; (case hd => rfl); (case hg => rfl); (case hr => exact zz14); intro gb101 hg w14 hbox hb; have n_ := zA4 (below_step zz1 hb) hbox (zz11 : w.heap.size ≤ gb101) (zz11 : w.heap.size ≤ gb101); clear HB; obtain ⟨HB, BK101, GW101, GE101⟩ := n_; clear hb hbox hg; have hcz15_0 := zC20 BK101; have hcz15_1 := zC21 BK101; have hfz15_0 := blk_frozen BK101.out 0; have hfz15_1 := blk_frozen BK101.out 1) | ((with_reducible refine gate_dst (N := 13) rfl ?_); refine Kd.R_make (Kd.int .i64) _ 3 rfl (N := 13) rfl 28 _ _ rfl a0_0 rfl rfl Try.underlying28 (.int .i64 0) 8 info3 rfl (by decide) (by omega) 0 (ok := fun _ => True) (okp := fun _ => True) rfl (fun _ hk => hk) trivial (of_decide_eq_true zz4) (Nat.le_trans (Nat.mul_le_mul_right _ (of_decide_eq_true zz4 : a0_0.toNat ≤ 35184372088832)) (by omega)) (Below.refl _ _) (Nat.le_refl _) ?_; intro v103 w16 ho17 hb hg_ hnew_; clear hg_ hnew_; (first | rw [← Ny102.out] at ho17 | (simp only [Int.reduceToNat] at ho17; rw [← Ny102.out] at ho17)); have n_ := zA3 (Kd.R_lower ho17 (below_size zz0)) (blk_below (g := gb101) (o := .cells #[.int .i64 a0_0, .slice A0_1 l0_1.length c0_1] 25 (0, 0)) zz2 hb) (below_step zz0 hb); clear BK101 HB; obtain ⟨HO104, BK101, HB⟩ := n_; clear hb ho17; have p9 : 0 ≤ (a3 : Int) := of_decide_eq_true zz4; have q9 : (a3 : Int) < ((y102.length : Int) : Int) := of_decide_eq_true zz4; obtain ⟨go9, co9, eo9, gb9, gl9, cl9, HG9⟩ := Kd.R_form HO104.out (by omega); (first | cases eo9 | (injection eo9 with ea_ en_ ec_; (first | subst ea_ | (injection ea_ with ea_; subst ea_)); subst ec_; clear en_)); have GB9 := Aside0.mk gb9; have GG9 := Aside0.mk HG9; clear gb9 gl9 HG9; obtain ⟨hx9_0, hf9_0⟩ := Kd.R_celln 0 HO104.out (a3 : Int) p9 q9; replace p9 := eq_true p9; replace q9 := eq_true q9; obtain ⟨hy18_, hz18_⟩ := Kd.R_celln 0 HO104.out (a3 : Int) (of_decide_eq_true zz4) (of_decide_eq_true zz4); have HP18 := Kd.R_putg HO104.out (a3 : Int) 1) | ((with_reducible refine gate_store (t := 3) (p := 16) rfl ?_); refine store_event (t := 3) (p := 16) (v := ?vo_w19) (w1 := (w16.setCell ⟨go9, (a3 : Int).toNat, none⟩ (.int .i64 1))) ?hg ?ho ?hn ?hr ?_; (case ho => rfl); (case hg => rfl); (case hn => rfl); (case hr => exact zz14); intro w19 hw; have hg : w16.grownBy w19 (some go9) := (by rw [hw]; exact HP18.2); have hp_ : Kd.R (Kd.int .i64) 3 w19 w.heap.size (fun _ => True) (.slice (some ⟨go9, 0, none⟩) y102.length co9) y105 := (by rw [hw, Ny105.out]; exact HP18.1); clear HP18; have n_ := zA3 (blk_grown (g := gb101) (o := .cells #[.int .i64 a0_0, .slice A0_1 l0_1.length c0_1] 25 (0, 0)) zz2 hg (Kd.R_ne HO104.out BK101.out (by decide))) hp_ (by rw [hw]; exact below_set (HB.out) GB9.out : Below w.heap.size w w19); clear BK101 HO104 HB; obtain ⟨BK101, HO104, HB⟩ := n_; clear hg hw hp_; have hcz20_0 := zC20 BK101; have hcz20_1 := zC21 BK101; have hfz20_0 := blk_frozen BK101.out 0; have hfz20_1 := blk_frozen BK101.out 1) | ((with_reducible refine gate_callee (f := 98) rfl ?_); refine goesL_ (some 20) rfl rfl Try.func98 (by kernel_rfl) rfl #[.agg #[.int .i64 a0_0, .slice A0_1 l0_1.length c0_1], .slice A1 l1.length c1, .slice (some ⟨go9, 0, none⟩) y105.length co9] rfl (by (try simp only [List.map_toArray, List.map_cons, List.map_nil]); first | done | (rw [show y105.length = y102.length from (Kd.R_reads' HO104.out).1.symm] <;> rfl) | rfl | (simp only [List.length_drop, List.length_take]; rfl)) ?_; (with_reducible refine (spec_l04Fire.calls k a0_0 _ _ l0_1 _ _ l1 _ _ y105 t106 _ ?side1 ?side2 ?side3 ?side4 ?side5 ?side6 A10.out).mono ?_); (case side1 => exact zz5); (case side2 => exact HC0_1.out); (case side3 => exact zz10); (case side4 => exact HC1.out); (case side5 => repeat (first | exact (Kd.R_reads' HO104.out).2.2 | (with_reducible refine Kd.C_alloc ?_ _) | (with_reducible refine Kd.C_drewN ?_ _) | (with_reducible refine Kd.C_drew ?_))); (case side6 => rw [show y105.length = y102.length from (Kd.R_reads' HO104.out).1.symm]; exact (Kd.R_reads' HO104.out).2.1); rintro e w21 ⟨v107, rfl, ho0, hb⟩; refine ⟨_, rfl, ?_⟩; have n_ := zA4 (Kd.R_elder' zz35 (Kd.R_base ho0) hb) (Kd.R_lower (Kd.R_new' ho0 (Kd.R_lt zz35)) (below_size zz0)) (blk_below (g := gb101) (o := .cells #[.int .i64 a0_0, .slice A0_1 l0_1.length c0_1] 25 (0, 0)) zz2 hb) (below_step zz0 hb); clear HO104 BK101 HB; obtain ⟨HO104, HO108, BK101, HB⟩ := n_; clear ho0 hb; have p13 : 0 ≤ (a2 : Int) := of_decide_eq_true zz4; have q13 : (a2 : Int) < ((t106.length : Int) : Int) := of_decide_eq_true zz4; obtain ⟨go13, co13, eo13, gb13, gl13, cl13, HG13⟩ := Kd.R_form HO108.out (by omega); (first | cases eo13 | (injection eo13 with ea_ en_ ec_; (first | subst ea_ | (injection ea_ with ea_; subst ea_)); subst ec_; clear en_)); have GB13 := Aside0.mk gb13; have GG13 := Aside0.mk HG13; clear gb13 gl13 HG13; obtain ⟨hx13_0, hf13_0⟩ := Kd.R_celln 0 HO108.out (a2 : Int) p13 q13; replace p13 := eq_true p13; replace q13 := eq_true q13; have n_ := Aside0.mk (Kd.R_mono (ok' := (fun k_ => some k_ ≠ (.slice (some ⟨go9, 0, none⟩) y102.length co9 : Value).ownBlock)) HO108.out (fun k_ hk => hk.2)); clear HO108; have HO108 := n_; clear n_; obtain ⟨hy22_, hz22_⟩ := Kd.R_celln 0 HO108.out (a2 : Int) (of_decide_eq_true zz4) (of_decide_eq_true zz4); have HP22 := Kd.R_putg HO108.out (a2 : Int) 0) | ((with_reducible refine gate_store (t := 3) (p := 23) rfl ?_); refine store_event (t := 3) (p := 23) (v := ?vo_w23) (w1 := (w21.setCell ⟨go13, (a2 : Int).toNat, none⟩ (.int .i64 0))) ?hg ?ho ?hn ?hr ?_; (case ho => rfl); (case hg => rfl); (case hn => rfl); (case hr => exact zz14); intro w23 hw; have hg : w21.grownBy w23 (some go13) := (by rw [hw]; exact HP22.2); have hp_ : Kd.R (Kd.int .i64) 3 w23 w.heap.size (fun k_ => some k_ ≠ (.slice (some ⟨go9, 0, none⟩) y102.length co9 : Value).ownBlock) (.slice (some ⟨go13, 0, none⟩) t106.length co13) y109 := (by rw [hw, Ny109.out]; exact HP22.1); clear HP22; have n_ := zA4 (blk_grown (g := gb101) (o := .cells #[.int .i64 a0_0, .slice A0_1 l0_1.length c0_1] 25 (0, 0)) zz2 hg (Kd.R_ne HO108.out BK101.out (by decide))) (Kd.R_after (v := (.slice (some ⟨go13, 0, none⟩) t106.length co13)) (v1 := (.slice (some ⟨go13, 0, none⟩) t106.length co13)) (ok := (fun _ => True)) zz35 hg (.inl rfl)) hp_ (by rw [hw]; exact below_set (HB.out) GB13.out : Below w.heap.size w w23); clear BK101 HO104 HO108 HB; obtain ⟨BK101, HO104, HO108, HB⟩ := n_; clear hg hw hp_))); go_ret; exact ⟨_, zz6, by (with_reducible repeat (first | apply Kd.R_alloc | apply Kd.R_drewN | apply Kd.R_drew)); exact Kd.R_mono HO108.out (fun _ hk => trivial), zz0⟩
def spec_l10Settle.l0 : Nat → Int → List Int → List Int → Int → List (S83) → Option (List Int × List Int)
 | 0, _, _, _, _, _ => none
 | k + 1, x2, x8, x9, x102000, x102001 => (spec_l10Unstable.f k x102000 x102001 x8 x2).bind fun t111 => (if t111 < 0 then (some (x8, x9)) else ((spec_l10Topple.f k x102000 x102001 x8 x2 t111).bind fun t112 => (if 0 ≤ t111 then (if t111 < (x9.length : Int) then (spec_l10Settle.l0 k x2 t112 (x9.set (t111 : Int).toNat (wrap64 ((rd x9 t111) + 1))) x102000 x102001) else (none)) else (none))))
def spec_l10Settle.f (k : Nat) (a0_0 : Int) (l0_1 : List (S83)) (l1 : List Int) (a2 : Int) : Option (List Int × List Int) := (some (([] : List Int) : List Int)).bind fun y102 => (if y102.length + l1.length < 17592186044416 then (if 0 ≤ a0_0 then (if (a0_0 : Int).toNat ≤ 35184372088832 then (spec_l10Settle.l0 k a2 (y102 ++ l1) (List.replicate (a0_0 : Int).toNat 0) a0_0 l0_1) else (none)) else (none)) else (none))
theorem spec_l10Settle.mono_l : ∀ k, (∀ y0 y1 y2 y3 y4, LeO (spec_l10Settle.l0 k y0 y1 y2 y3 y4) (spec_l10Settle.l0 (k + 1) y0 y1 y2 y3 y4))
 | 0 => fun _ _ _ _ _ r h => by simp [spec_l10Settle.l0] at h
 | k + 1 => by
  have ih0 := spec_l10Settle.mono_l k
  ·intro y0 y1 y2 y3 y4
   unfold spec_l10Settle.l0
   exact zm14
theorem spec_l10Settle.mono : ∀ a0 a1 a2 a3 k, LeO (spec_l10Settle.f k a0 a1 a2 a3) (spec_l10Settle.f (k + 1) a0 a1 a2 a3) := by
 intro a0 a1 a2 a3 k; have ih0 := spec_l10Settle.mono_l k; unfold spec_l10Settle.f; exact zm14
set_option maxHeartbeats 8000000 in
set_option maxRecDepth 100000 in
theorem spec_l10Settle.calls (k : Nat) (a0_0 : Int) (A0_1 : Option Addr) (c0_1 : Nat) (l0_1 : List (S83)) (A1 : Option Addr) (c1 : Nat) (l1 : List Int) (a2 : Int) (r1 : List Int) (r2 : List Int) (w : World) (hr0_1 : Kd.C k83 w A0_1 l0_1.length l0_1) (hc0_1 : l0_1.length ≤ c0_1) (hr1 : Kd.C (Kd.int .i64) w A1 l1.length l1) (hc1 : l1.length ≤ c1) (h : spec_l10Settle.f k a0_0 l0_1 l1 a2 = some (r1, r2)) :
  Calls Try.prog 93 #[.agg #[.int .i64 a0_0, .slice A0_1 l0_1.length c0_1], .slice A1 l1.length c1, .int .i64 a2] w fun e w' => ∃ v0_ v1_ : Value, e = .returned (.tuple #[v0_, v1_]) ∧ Kd.R (Kd.int .i64) 3 w' w.heap.size (fun k_ => some k_ ≠ (v1_ : Value).ownBlock) v0_ r1 ∧ Kd.R (Kd.int .i64) 3 w' w.heap.size (fun k_ => some k_ ≠ (v0_ : Value).ownBlock) v1_ r2 ∧ Below w.heap.size w w' := by
 have hu25 := Try.underlying25; have HR0_1 := Aside0.mk hr0_1; have HC0_1 := Aside0.mk hc0_1; clear hr0_1 hc0_1; have HR1 := Aside0.mk hr1; have HC1 := Aside0.mk hc1; clear hr1 hc1; have HB := Aside0.mk (Below.refl w.heap.size w); have H : ((some (([] : List Int) : List Int)).bind fun y102 => (if y102.length + l1.length < 17592186044416 then (if 0 ≤ a0_0 then (if (a0_0 : Int).toNat ≤ 35184372088832 then (spec_l10Settle.l0 k a2 (y102 ++ l1) (List.replicate (a0_0 : Int).toNat 0) a0_0 l0_1) else (none)) else (none)) else (none))) = some (r1, r2) := h; clear h; obtain ⟨y102, hy_⟩ : ∃ y_ : List Int, y_ = (([] : List Int)) := ⟨_, rfl⟩; (replace H : (if y102.length + l1.length < 17592186044416 then (if 0 ≤ a0_0 then (if (a0_0 : Int).toNat ≤ 35184372088832 then (spec_l10Settle.l0 k a2 (y102 ++ l1) (List.replicate (a0_0 : Int).toNat 0) a0_0 l0_1) else (none)) else (none)) else (none)) = some (r1, r2) := zzY); have Ny102 := Aside0.mk hy_; clear hy_; by_cases c4 : y102.length + l1.length < 17592186044416; rotate_left
 ·rw [if_neg c4] at H; exact absurd H (by simp)
 rw [if_pos c4] at H; have LMc4 := Aside0.mk c4; clear c4; obtain ⟨y105, hy_⟩ : ∃ y_ : List Int, y_ = (y102 ++ l1) := ⟨_, rfl⟩; (replace H : (if 0 ≤ a0_0 then (if (a0_0 : Int).toNat ≤ 35184372088832 then (spec_l10Settle.l0 k a2 y105 (List.replicate (a0_0 : Int).toNat 0) a0_0 l0_1) else (none)) else (none)) = some (r1, r2) := zzY); have Ny105 := Aside0.mk hy_; clear hy_; by_cases c5 : 0 ≤ a0_0; rotate_left
 ·rw [if_neg c5] at H; exact absurd H (by simp)
 rw [if_pos c5] at H; have c5b0 := eq_true c5; have c5b1 : decide (0 ≤ a0_0) = true := decide_eq_true c5; clear c5; by_cases c6 : (a0_0 : Int).toNat ≤ 35184372088832; rotate_left
 ·rw [if_neg c6] at H; exact absurd H (by simp)
 rw [if_pos c6] at H; have c6b0 := eq_true c6; have c6b1 : decide ((a0_0 : Int).toNat ≤ 35184372088832) = true := decide_eq_true c6; clear c6; obtain ⟨y108, hy_⟩ : ∃ y_ : List Int, y_ = (List.replicate (a0_0 : Int).toNat 0) := ⟨_, rfl⟩; (replace H : (spec_l10Settle.l0 k a2 y105 y108 a0_0 l0_1) = some (r1, r2) := zzY); have Ny108 := Aside0.mk hy_; clear hy_; have H' := Aside0.mk H; clear H; go_enter Try.func93, Try.ntmps93; (go_wp2_with (first | ((with_reducible refine gate_dst (N := 3) rfl ?_); refine box_event ?hg (N := 3) ?hd (cs := #[.int .i64 a0_0, .slice A0_1 l0_1.length c0_1]) (t := 25) ?hr ?_; (case hd => rfl); (case hg => rfl); (case hr => exact zz14); intro gb101 hg w7 hbox hb; have n_ := zA4 (below_step zz1 hb) hbox (zz11 : w.heap.size ≤ gb101) (zz11 : w.heap.size ≤ gb101); clear HB; obtain ⟨HB, BK101, GW101, GE101⟩ := n_; clear hb hbox hg) | ((with_reducible refine gate_dst (N := 11) rfl ?_); refine Kd.R_lit (Kd.int .i64) _ 3 ?hg (N := 11) ?hd (xs := ([] : List Int)) (inner := []) (ok := fun _ => True) (okp := fun _ => True) ?hr ?hp (fun _ hk => hk) trivial (Below.refl _ _) (Nat.le_refl _) (by simp) ?_; (case hd => rfl); (case hg => rfl); (case hr => exact zz14); (case hp => exact (Reps.none _ _)); intro v103 w8 ho9 hb hg_ hnew_; clear hg_ hnew_; (first | rw [← Ny102.out] at ho9 | (simp only [Int.reduceToNat] at ho9; rw [← Ny102.out] at ho9)); have n_ := zA3 (Kd.R_lower ho9 (below_size zz0)) (blk_below (g := gb101) (o := .cells #[.int .i64 a0_0, .slice A0_1 l0_1.length c0_1] 25 (0, 0)) zz2 hb) (below_step zz0 hb); clear BK101 HB; obtain ⟨HO104, BK101, HB⟩ := n_; clear hb ho9) | ((with_reducible refine gate_builtin (b := .append) (xs := #[.tmp 11, .tmp 12]) rfl ?_); at_builtin; refine Kd.R_append_rows (Kd.int .i64) (w0 := w) w.heap.size rfl (.tmp 11) (.tmp 12) 28 3 (.int .i64 0) 8 rfl Try.underlying28 info3 rfl (by decide) (by omega) v103 y102 l1 _ _ _ (fun _ => True) (fun _ => False) rfl rfl ?aO ?aR (fun _ _ h => h) (fun _ h => h.elim) ?aF ?aB ?aS ?aL ?_; (case aR => exact zz10); (case aB => exact zz0); (case aF => exact (fun _ _ => trivial)); (case aO => exact zz35); (case aS => exact (below_size zz0)); (case aL => have := LMc4.out; omega); intro v106 w10 ho hb hg hat; rw [← Ny105.out] at ho; have n_ := zA3 (blk_grown (g := gb101) (o := .cells #[.int .i64 a0_0, .slice A0_1 l0_1.length c0_1] 25 (0, 0)) zz2 hg (Kd.R_ne HO104.out BK101.out (by decide))) hb ho; clear BK101 HB HO104; obtain ⟨BK101, HB, HO107⟩ := n_; clear ho hb hg hat; have hcz11_0 := zC20 BK101; have hcz11_1 := zC21 BK101; have hfz11_0 := blk_frozen BK101.out 0; have hfz11_1 := blk_frozen BK101.out 1) | ((with_reducible refine gate_dst (N := 16) rfl ?_); refine Kd.R_make (Kd.int .i64) _ 3 rfl (N := 16) rfl 28 _ _ rfl a0_0 rfl rfl Try.underlying28 (.int .i64 0) 8 info3 rfl (by decide) (by omega) 0 (ok := fun _ => True) (okp := fun _ => True) rfl (fun _ hk => hk) trivial (of_decide_eq_true zz4) (Nat.le_trans (Nat.mul_le_mul_right _ (of_decide_eq_true zz4 : a0_0.toNat ≤ 35184372088832)) (by omega)) (Below.refl _ _) (Nat.le_refl _) ?_; intro v109 w12 ho13 hb hg_ hnew_; clear hg_ hnew_; (first | rw [← Ny108.out] at ho13 | (simp only [Int.reduceToNat] at ho13; rw [← Ny108.out] at ho13)); have n_ := zA4 (Kd.R_elder' zz44 (Kd.R_base ho13) hb) (Kd.R_lower (Kd.R_new' ho13 (Kd.R_lt zz44)) (below_size zz0)) (blk_below (g := gb101) (o := .cells #[.int .i64 a0_0, .slice A0_1 l0_1.length c0_1] 25 (0, 0)) zz2 hb) (below_step zz0 hb); clear HO107 BK101 HB; obtain ⟨HO107, HO110, BK101, HB⟩ := n_; clear hb ho13))); (go_loopg [8] k (fun kq v8 w' => ∃ (x8_1 : List Int) (x9_1 : List Int), Aside0 (spec_l10Settle.l0 kq a2 x8_1 x9_1 a0_0 l0_1 = some (r1, r2)) ∧ Aside0 (kq ≤ k) ∧ Aside0 (Kd.R (Kd.int .i64) 3 w' w.heap.size (fun k_ => some k_ ≠ (v109 : Value).ownBlock) v8 x8_1) ∧ Aside0 (Kd.R (Kd.int .i64) 3 w' w.heap.size (fun k_ => some k_ ≠ (v8 : Value).ownBlock) v109 x9_1) ∧ Aside0 (w'.heap[gb101]? = some (.cells #[.int .i64 a0_0, (.slice A0_1 l0_1.length c0_1)] 25 (0, 0))) ∧ Aside0 (Below w.heap.size w w'))); case atStart => exact ⟨(y105), (y108), H', ⟨Nat.le_refl _⟩, ⟨by (with_reducible repeat (first | apply Kd.R_alloc | apply Kd.R_drewN | apply Kd.R_drew)); exact Kd.R_mono HO107.out (fun _ hk => hk.2)⟩, ⟨by (with_reducible repeat (first | apply Kd.R_alloc | apply Kd.R_drewN | apply Kd.R_drew)); exact Kd.R_mono HO110.out (fun _ hk => hk.2)⟩, ⟨zz2⟩, ⟨zz0⟩⟩
 case round =>
  clear H'; (try clear c1); (try clear p2); (try clear c4); (try clear c5); (try clear c5b0); (try clear c5b1); (try clear c6); (try clear c6b0); (try clear c6b1); (try clear c9); (try clear hcz11_0); (try clear hcz11_1); (try clear hfz11_0); (try clear hfz11_1); obtain ⟨x8_1, x9_1, HA, HK1, HO_8, HO_9, BK101, HB⟩ := hrel
  cases gk with
  | zero => exact absurd HA.out (by simp [spec_l10Settle.l0])
  | succ k1 =>
   have H := HA.out; clear HA; simp only [spec_l10Settle.l0] at H; replace H := Option.bind_eq_some_iff.mp H; obtain ⟨t111, A140, H⟩ := H; (try dsimp only at H); have A14 := Aside0.mk A140; clear A140; by_cases c15 : t111 < 0
   ·rw [if_pos c15] at H; have c15b0 := decide_eq_true c15; clear c15; simp only [Option.some.injEq, Prod.mk.injEq] at H; obtain ⟨rfl, rfl⟩ := H; have hcz16_0 := zC20 BK101; have hcz16_1 := zC21 BK101; have hfz16_0 := blk_frozen BK101.out 0; have hfz16_1 := blk_frozen BK101.out 1; obtain ⟨Ao17, co17, eo17⟩ := Kd.R_slice HO_8.out; subst eo17; (go_wp2_with (first | ((with_reducible refine gate_callee (f := 116) rfl ?_); refine goesL_ (some 20) rfl rfl Try.func116 (by kernel_rfl) rfl #[.agg #[.int .i64 a0_0, .slice A0_1 l0_1.length c0_1], .slice Ao17 x8_1.length co17, .int .i64 a2] rfl zz3 ?_; (with_reducible refine (spec_l10Unstable.calls k1 a0_0 _ _ l0_1 _ _ x8_1 a2 t111 _ ?side1 ?side2 ?side3 ?side4 A14.out).mono ?_); (case side1 => exact zz5); (case side2 => exact HC0_1.out); (case side3 => exact zz54); (case side4 => exact (Kd.R_reads' HO_8.out).2.1); rintro e w18 ⟨rfl, hb⟩; refine ⟨_, rfl, ?_⟩; have n_ := zA4 (Kd.R_below zz48 hb) (Kd.R_below zz49 hb) (blk_below (g := gb101) (o := .cells #[.int .i64 a0_0, .slice A0_1 l0_1.length c0_1] 25 (0, 0)) zz2 hb) (below_step zz0 hb); clear HO_8 HO_9 BK101 HB; obtain ⟨HO_8, HO_9, BK101, HB⟩ := n_; clear hb))); (go_ret2); exact ⟨_, _, zz6, by (with_reducible repeat (first | apply Kd.R_alloc | apply Kd.R_drewN | apply Kd.R_drew)); exact HO_8.out, by (with_reducible repeat (first | apply Kd.R_alloc | apply Kd.R_drewN | apply Kd.R_drew)); exact HO_9.out, zz0⟩
   rw [if_neg c15] at H; have c15b0 := decide_eq_false c15; clear c15; replace H := Option.bind_eq_some_iff.mp H; obtain ⟨t112, A190, H⟩ := H; (try dsimp only at H); have A19 := Aside0.mk A190; clear A190; by_cases c20 : 0 ≤ t111; rotate_left
   ·rw [if_neg c20] at H; exact absurd H (by simp)
   rw [if_pos c20] at H; have c20b0 := decide_eq_true c20; clear c20; by_cases c21 : t111 < (x9_1.length : Int); rotate_left
   ·rw [if_neg c21] at H; exact absurd H (by simp)
   rw [if_pos c21] at H; have c21b0 := decide_eq_true c21; clear c21; obtain ⟨y116, hy_⟩ : ∃ y_ : List Int, y_ = (x9_1.set (t111 : Int).toNat (wrap64 ((rd x9_1 t111) + 1))) := ⟨_, rfl⟩; (replace H : (spec_l10Settle.l0 k1 a2 t112 y116 a0_0 l0_1) = some (r1, r2) := zzY); have Ny116 := Aside0.mk hy_; clear hy_; have H' := Aside0.mk H; clear H; have hcz23_0 := zC20 BK101; have hcz23_1 := zC21 BK101; have hfz23_0 := blk_frozen BK101.out 0; have hfz23_1 := blk_frozen BK101.out 1; obtain ⟨Ao24, co24, eo24⟩ := Kd.R_slice HO_8.out; subst eo24; (go_wp2_with (first | ((with_reducible refine gate_callee (f := 116) rfl ?_); refine goesL_ (some 20) rfl rfl Try.func116 (by kernel_rfl) rfl #[.agg #[.int .i64 a0_0, .slice A0_1 l0_1.length c0_1], .slice Ao24 x8_1.length co24, .int .i64 a2] rfl zz3 ?_; (with_reducible refine (spec_l10Unstable.calls k1 a0_0 _ _ l0_1 _ _ x8_1 a2 t111 _ ?side1 ?side2 ?side3 ?side4 A14.out).mono ?_); (case side1 => exact zz5); (case side2 => exact HC0_1.out); (case side3 => exact zz54); (case side4 => exact (Kd.R_reads' HO_8.out).2.1); rintro e w25 ⟨rfl, hb⟩; refine ⟨_, rfl, ?_⟩; have n_ := zA4 (Kd.R_below zz48 hb) (Kd.R_below zz49 hb) (blk_below (g := gb101) (o := .cells #[.int .i64 a0_0, .slice A0_1 l0_1.length c0_1] 25 (0, 0)) zz2 hb) (below_step zz0 hb); clear HO_8 HO_9 BK101 HB; obtain ⟨HO_8, HO_9, BK101, HB⟩ := n_; clear hb; have hcz26_0 := zC20 BK101; have hcz26_1 := zC21 BK101; have hfz26_0 := blk_frozen BK101.out 0; have hfz26_1 := blk_frozen BK101.out 1) | ((with_reducible refine gate_callee (f := 117) rfl ?_); refine goesL_ (some 29) rfl rfl Try.func117 (by kernel_rfl) rfl #[.agg #[.int .i64 a0_0, .slice A0_1 l0_1.length c0_1], .slice Ao24 x8_1.length co24, .int .i64 a2, .int .i64 t111] rfl zz3 ?_; (with_reducible refine (spec_l10Topple.calls k1 a0_0 _ _ l0_1 _ _ x8_1 a2 t111 t112 _ ?side1 ?side2 ?side3 ?side4 A19.out).mono ?_); (case side1 => exact zz5); (case side2 => exact HC0_1.out); (case side3 => exact zz54); (case side4 => exact (Kd.R_reads' HO_8.out).2.1); rintro e w27 ⟨v113, rfl, ho0, hb⟩; refine ⟨_, rfl, ?_⟩; have n_ := zA5 (Kd.R_elder' zz48 (Kd.R_base ho0) hb) (Kd.R_elder' zz49 (Kd.R_base ho0) hb) (Kd.R_lower (Kd.R_new' (Kd.R_new' ho0 (Kd.R_lt zz48)) (Kd.R_lt zz49)) (below_size zz0)) (blk_below (g := gb101) (o := .cells #[.int .i64 a0_0, .slice A0_1 l0_1.length c0_1] 25 (0, 0)) zz2 hb) (below_step zz0 hb); clear HO_8 HO_9 BK101 HB; obtain ⟨HO_8, HO_9, HO114, BK101, HB⟩ := n_; clear ho0 hb; obtain ⟨Ao28, co28, eo28⟩ := Kd.R_slice HO_9.out; subst eo28; have p115 : 0 ≤ (t111 : Int) := of_decide_eq_true zz4; have q115 : t111 < (x9_1.length : Int) := of_decide_eq_true zz4; obtain ⟨ad115, e115, hx115_0⟩ := Kd.at_int (Kd.R_reads' HO_9.out).2.2 t111 p115 q115; cases e115; replace p115 := eq_true p115; replace q115 := eq_true q115; have p22 : 0 ≤ (t111 : Int) := of_decide_eq_true zz4; have q22 : (t111 : Int) < ((x9_1.length : Int) : Int) := of_decide_eq_true zz4; obtain ⟨go22, co22, eo22, gb22, gl22, cl22, HG22⟩ := Kd.R_form HO_9.out (by omega); (first | cases eo22 | (injection eo22 with ea_ en_ ec_; (first | subst ea_ | (injection ea_ with ea_; subst ea_)); subst ec_; clear en_)); have GB22 := Aside0.mk gb22; have GG22 := Aside0.mk HG22; clear gb22 gl22 HG22; (first | simp only [add_plain] at hx115_0 | skip); obtain ⟨hx22_0, hf22_0⟩ := Kd.R_celln 0 HO_9.out (t111 : Int) p22 q22; replace p22 := eq_true p22; replace q22 := eq_true q22; obtain ⟨hy29_, hz29_⟩ := Kd.R_celln 0 HO_9.out (t111 : Int) (of_decide_eq_true zz4) (of_decide_eq_true zz4); have HP29 := Kd.R_putg HO_9.out (t111 : Int) (wrap64 ((rd x9_1 t111) + 1))) | ((with_reducible refine gate_store (t := 3) (p := 35) rfl ?_); refine store_event (t := 3) (p := 35) (v := ?vo_w30) (w1 := (w27.setCell ⟨go22, (t111 : Int).toNat, none⟩ (.int .i64 (wrap64 ((rd x9_1 t111) + 1))))) ?hg ?ho ?hn ?hr ?_; (case ho => rfl); (case hg => rfl); (case hn => rfl); (case hr => exact zz14); intro w30 hw; have hg : w27.grownBy w30 (some go22) := (by rw [hw]; exact HP29.2); have hp_ : Kd.R (Kd.int .i64) 3 w30 w.heap.size (fun k_ => some k_ ≠ (.slice Ao24 x8_1.length co24 : Value).ownBlock ∧ some k_ ≠ (v113 : Value).ownBlock) (.slice (some ⟨go22, 0, none⟩) x9_1.length co28) y116 := (by rw [hw, Ny116.out]; exact HP29.1); clear HP29; have n_ := zA5 (Kd.R_after (v := (.slice (some ⟨go22, 0, none⟩) x9_1.length co28)) (v1 := (.slice (some ⟨go22, 0, none⟩) x9_1.length co28)) (ok := (fun k_ => some k_ ≠ (v113 : Value).ownBlock)) (by (with_reducible repeat (first | apply Kd.R_alloc | apply Kd.R_drewN | apply Kd.R_drew)); exact Kd.R_mono HO_8.out (fun _ hk => ⟨hk.2, hk.1⟩)) hg (.inl rfl)) hp_ (blk_grown (g := gb101) (o := .cells #[.int .i64 a0_0, .slice A0_1 l0_1.length c0_1] 25 (0, 0)) zz2 hg (Kd.R_ne HO_9.out BK101.out (by decide))) (Kd.R_after (v := (.slice (some ⟨go22, 0, none⟩) x9_1.length co28)) (v1 := (.slice (some ⟨go22, 0, none⟩) x9_1.length co28)) (ok := (fun k_ => some k_ ≠ (.slice Ao24 x8_1.length co24 : Value).ownBlock)) (by (with_reducible repeat (first | apply Kd.R_alloc | apply Kd.R_drewN | apply Kd.R_drew)); exact Kd.R_mono HO114.out (fun _ hk => ⟨hk.1.2, hk.2⟩)) hg (.inl rfl)) (by rw [hw]; exact below_set (HB.out) GB22.out : Below w.heap.size w w30); clear HO_8 HO_9 BK101 HO114 HB; obtain ⟨HO_8, HO_9, BK101, HO114, HB⟩ := n_; clear hg hw hp_))); go_roundg k1; (case measure => have := HK1.out; omega); case rel => exact ⟨(t112), (y116), H', ⟨zz41⟩, ⟨by (with_reducible repeat (first | apply Kd.R_alloc | apply Kd.R_drewN | apply Kd.R_drew)); exact Kd.R_mono HO114.out (fun _ hk => hk.2)⟩, ⟨by (with_reducible repeat (first | apply Kd.R_alloc | apply Kd.R_drewN | apply Kd.R_drew)); exact Kd.R_mono HO_9.out (fun _ hk => hk.2)⟩, ⟨zz2⟩, ⟨zz0⟩⟩
def spec_Stabilize.f (k : Nat) (a0_0 : Int) (l0_1 : List (S83)) (l1 : List Int) (a2 : Int) : Option (List Int × List Int × Bool) := (spec_PileOk.f k a0_0 l0_1 l1 a2).bind fun t102 => (if t102 = true then ((spec_l10Settle.f k a0_0 l0_1 l1 a2).bind fun bt103 => (some (bt103.1, bt103.2, true))) else (some (([] : List Int), ([] : List Int), false)))
theorem spec_Stabilize.mono : ∀ a0 a1 a2 a3 k, LeO (spec_Stabilize.f k a0 a1 a2 a3) (spec_Stabilize.f (k + 1) a0 a1 a2 a3) := by
 intro a0 a1 a2 a3 k; unfold spec_Stabilize.f; repeat' first | (with_reducible apply spec_PileOk.mono) | (with_reducible apply spec_l10Settle.mono) | (with_reducible exact LeO.refl _) | (with_reducible exact LeO.none _) | (with_reducible refine LeO.ite ?_ ?_) | (with_reducible refine LeO.bind ?_ (fun _ => ?_)) | apply spec_PileOk.mono | apply spec_l10Settle.mono | exact LeO.none _ | refine LeO.ite ?_ ?_ | refine LeO.bind ?_ (fun _ => ?_)
set_option maxHeartbeats 8000000 in
set_option maxRecDepth 100000 in
theorem spec_Stabilize.calls (k : Nat) (a0_0 : Int) (A0_1 : Option Addr) (c0_1 : Nat) (l0_1 : List (S83)) (A1 : Option Addr) (c1 : Nat) (l1 : List Int) (a2 : Int) (r1 : List Int) (r2 : List Int) (r3 : Bool) (w : World) (hr0_1 : Kd.C k83 w A0_1 l0_1.length l0_1) (hc0_1 : l0_1.length ≤ c0_1) (hr1 : Kd.C (Kd.int .i64) w A1 l1.length l1) (hc1 : l1.length ≤ c1) (h : spec_Stabilize.f k a0_0 l0_1 l1 a2 = some (r1, r2, r3)) :
  Calls Try.prog 67 #[.agg #[.int .i64 a0_0, .slice A0_1 l0_1.length c0_1], .slice A1 l1.length c1, .int .i64 a2] w fun e w' => ∃ v0_ v1_ : Value, e = .returned (.tuple #[v0_, v1_, .bool r3]) ∧ Kd.R (Kd.int .i64) 3 w' w.heap.size (fun k_ => some k_ ≠ (v1_ : Value).ownBlock) v0_ r1 ∧ Kd.R (Kd.int .i64) 3 w' w.heap.size (fun k_ => some k_ ≠ (v0_ : Value).ownBlock) v1_ r2 ∧ Below w.heap.size w w' := by
 have hu25 := Try.underlying25; have HR0_1 := Aside0.mk hr0_1; have HC0_1 := Aside0.mk hc0_1; clear hr0_1 hc0_1; have HR1 := Aside0.mk hr1; have HC1 := Aside0.mk hc1; clear hr1 hc1; have HB := Aside0.mk (Below.refl w.heap.size w); have H : ((spec_PileOk.f k a0_0 l0_1 l1 a2).bind fun t102 => (if t102 = true then ((spec_l10Settle.f k a0_0 l0_1 l1 a2).bind fun bt103 => (some (bt103.1, bt103.2, true))) else (some (([] : List Int), ([] : List Int), false)))) = some (r1, r2, r3) := h; clear h; replace H := Option.bind_eq_some_iff.mp H; obtain ⟨t102, A40, H⟩ := H; (try dsimp only at H); have A4 := Aside0.mk A40; clear A40; by_cases c5 : t102 = true; rotate_left
 ·replace c5 := Bool.eq_false_iff.mpr c5; subst c5; rw [if_neg (show ¬ (false = true) by decide)] at H; simp only [Option.some.injEq, Prod.mk.injEq] at H; obtain ⟨rfl, rfl, rfl⟩ := H; go_enter Try.func67, Try.ntmps67; (go_wp2_with (first | ((with_reducible refine gate_dst (N := 3) rfl ?_); refine box_event ?hg (N := 3) ?hd (cs := #[.int .i64 a0_0, .slice A0_1 l0_1.length c0_1]) (t := 25) ?hr ?_; (case hd => rfl); (case hg => rfl); (case hr => exact zz14); intro gb101 hg w12 hbox hb; have n_ := zA4 (below_step zz1 hb) hbox (zz11 : w.heap.size ≤ gb101) (zz11 : w.heap.size ≤ gb101); clear HB; obtain ⟨HB, BK101, GW101, GE101⟩ := n_; clear hb hbox hg; have hcz13_0 := zC20 BK101; have hcz13_1 := zC21 BK101; have hfz13_0 := blk_frozen BK101.out 0; have hfz13_1 := blk_frozen BK101.out 1) | ((with_reducible refine gate_callee (f := 65) rfl ?_); refine goesL_ (some 14) rfl rfl Try.func65 (by kernel_rfl) rfl #[.agg #[.int .i64 a0_0, .slice A0_1 l0_1.length c0_1], .slice A1 l1.length c1, .int .i64 a2] rfl zz3 ?_; (with_reducible refine (spec_PileOk.calls k a0_0 _ _ l0_1 _ _ l1 a2 false _ ?side1 ?side2 ?side3 ?side4 A4.out).mono ?_); (case side1 => exact zz5); (case side2 => exact HC0_1.out); (case side3 => exact zz10); (case side4 => exact HC1.out); rintro e w14 ⟨rfl, hb⟩; refine ⟨_, rfl, ?_⟩; have n_ := zA2 (blk_below (g := gb101) (o := .cells #[.int .i64 a0_0, .slice A0_1 l0_1.length c0_1] 25 (0, 0)) zz2 hb) (below_step zz0 hb); clear BK101 HB; obtain ⟨BK101, HB⟩ := n_; clear hb))); (go_ret3); exact ⟨_, _, zz6, zz42, by first | exact Kd.R_nil _ _ _ _ _ | exact Kd.N_nil _ _ _ _ _ | exact Kd.V_nil _ _ _ _ _ | exact Kd.Q_nil _ _ _ _ _ | exact Kd.S_nil _ _ _ _ _, zz0⟩
 subst c5; rw [if_pos rfl] at H; replace H := Option.bind_eq_some_iff.mp H; obtain ⟨⟨t103, t106⟩, A60, H⟩ := H; dsimp only at H; have A6 := Aside0.mk A60; clear A60; simp only [Option.some.injEq, Prod.mk.injEq] at H; obtain ⟨rfl, rfl, rfl⟩ := H; go_enter Try.func67, Try.ntmps67; (go_wp2_with (first | ((with_reducible refine gate_dst (N := 3) rfl ?_); refine box_event ?hg (N := 3) ?hd (cs := #[.int .i64 a0_0, .slice A0_1 l0_1.length c0_1]) (t := 25) ?hr ?_; (case hd => rfl); (case hg => rfl); (case hr => exact zz14); intro gb101 hg w7 hbox hb; have n_ := zA4 (below_step zz1 hb) hbox (zz11 : w.heap.size ≤ gb101) (zz11 : w.heap.size ≤ gb101); clear HB; obtain ⟨HB, BK101, GW101, GE101⟩ := n_; clear hb hbox hg; have hcz8_0 := zC20 BK101; have hcz8_1 := zC21 BK101; have hfz8_0 := blk_frozen BK101.out 0; have hfz8_1 := blk_frozen BK101.out 1) | ((with_reducible refine gate_callee (f := 65) rfl ?_); refine goesL_ (some 14) rfl rfl Try.func65 (by kernel_rfl) rfl #[.agg #[.int .i64 a0_0, .slice A0_1 l0_1.length c0_1], .slice A1 l1.length c1, .int .i64 a2] rfl zz3 ?_; (with_reducible refine (spec_PileOk.calls k a0_0 _ _ l0_1 _ _ l1 a2 true _ ?side1 ?side2 ?side3 ?side4 A4.out).mono ?_); (case side1 => exact zz5); (case side2 => exact HC0_1.out); (case side3 => exact zz10); (case side4 => exact HC1.out); rintro e w9 ⟨rfl, hb⟩; refine ⟨_, rfl, ?_⟩; have n_ := zA2 (blk_below (g := gb101) (o := .cells #[.int .i64 a0_0, .slice A0_1 l0_1.length c0_1] 25 (0, 0)) zz2 hb) (below_step zz0 hb); clear BK101 HB; obtain ⟨BK101, HB⟩ := n_; clear hb; have hcz10_0 := zC20 BK101; have hcz10_1 := zC21 BK101; have hfz10_0 := blk_frozen BK101.out 0; have hfz10_1 := blk_frozen BK101.out 1) | ((with_reducible refine gate_callee (f := 93) rfl ?_); refine goesL_ (some 20) rfl rfl Try.func93 (by kernel_rfl) rfl #[.agg #[.int .i64 a0_0, .slice A0_1 l0_1.length c0_1], .slice A1 l1.length c1, .int .i64 a2] rfl zz3 ?_; (with_reducible refine (spec_l10Settle.calls k a0_0 _ _ l0_1 _ _ l1 a2 t103 t106 _ ?side1 ?side2 ?side3 ?side4 A6.out).mono ?_); (case side1 => exact zz5); (case side2 => exact HC0_1.out); (case side3 => exact zz10); (case side4 => exact HC1.out); rintro e w11 ⟨v104, v107, rfl, ho0, ho1, hb⟩; refine ⟨_, rfl, ?_⟩; have n_ := zA4 (Kd.R_lower ho0 (below_size zz0)) (Kd.R_lower ho1 (below_size zz0)) (blk_below (g := gb101) (o := .cells #[.int .i64 a0_0, .slice A0_1 l0_1.length c0_1] 25 (0, 0)) zz2 hb) (below_step zz0 hb); clear BK101 HB; obtain ⟨HO105, HO108, BK101, HB⟩ := n_; clear ho0 ho1 hb))); (go_ret3); exact ⟨_, _, zz6, by (with_reducible repeat (first | apply Kd.R_alloc | apply Kd.R_drewN | apply Kd.R_drew)); exact HO105.out, by (with_reducible repeat (first | apply Kd.R_alloc | apply Kd.R_drewN | apply Kd.R_drew)); exact HO108.out, zz0⟩
def spec_SumOfPiles.j0 : Nat → List Int → List Int → Int → Bool → Int → List (S83) → Option (List Int × Bool)
 | 0, _, _, _, _, _, _ => none
 | k + 1, x1, x2, x3, x26, x102000, x102001 => if x26 = true then (some (([] : List Int), false)) else ((spec_AddDivisors.f k x1 x2).bind fun bt104 => ((spec_Stabilize.f k x102000 x102001 bt104.1 x3).bind fun bt108 => (some (bt108.1, bt108.2.2))))
def spec_SumOfPiles.f (k : Nat) (a0_0 : Int) (l0_1 : List (S83)) (l1 : List Int) (l2 : List Int) (a3 : Int) : Option (List Int × Bool) := (spec_PileOk.f k a0_0 l0_1 l1 a3).bind fun t102 => (if t102 = true then ((spec_PileOk.f k a0_0 l0_1 l2 a3).bind fun t103 => (spec_SumOfPiles.j0 k l1 l2 a3 (!t103) a0_0 l0_1)) else (spec_SumOfPiles.j0 k l1 l2 a3 true a0_0 l0_1))
theorem spec_SumOfPiles.mono_l : ∀ k, (∀ y0 y1 y2 y3 y4 y5, LeO (spec_SumOfPiles.j0 k y0 y1 y2 y3 y4 y5) (spec_SumOfPiles.j0 (k + 1) y0 y1 y2 y3 y4 y5))
 | 0 => fun _ _ _ _ _ _ r h => by simp [spec_SumOfPiles.j0] at h
 | k + 1 => by
  have ih0 := spec_SumOfPiles.mono_l k
  ·intro y0 y1 y2 y3 y4 y5
   unfold spec_SumOfPiles.j0
   exact zm10
theorem spec_SumOfPiles.mono : ∀ a0 a1 a2 a3 a4 k, LeO (spec_SumOfPiles.f k a0 a1 a2 a3 a4) (spec_SumOfPiles.f (k + 1) a0 a1 a2 a3 a4) := by
 intro a0 a1 a2 a3 a4 k; have ih0 := spec_SumOfPiles.mono_l k; unfold spec_SumOfPiles.f; exact zm10
set_option maxHeartbeats 8000000 in
set_option maxRecDepth 100000 in
theorem spec_SumOfPiles.calls (k : Nat) (a0_0 : Int) (A0_1 : Option Addr) (c0_1 : Nat) (l0_1 : List (S83)) (A1 : Option Addr) (c1 : Nat) (l1 : List Int) (A2 : Option Addr) (c2 : Nat) (l2 : List Int) (a3 : Int) (r1 : List Int) (r2 : Bool) (w : World) (hr0_1 : Kd.C k83 w A0_1 l0_1.length l0_1) (hc0_1 : l0_1.length ≤ c0_1) (hr1 : Kd.C (Kd.int .i64) w A1 l1.length l1) (hc1 : l1.length ≤ c1) (hr2 : Kd.C (Kd.int .i64) w A2 l2.length l2) (hc2 : l2.length ≤ c2) (h : spec_SumOfPiles.f k a0_0 l0_1 l1 l2 a3 = some (r1, r2)) :
  Calls Try.prog 24 #[.agg #[.int .i64 a0_0, .slice A0_1 l0_1.length c0_1], .slice A1 l1.length c1, .slice A2 l2.length c2, .int .i64 a3] w fun e w' => ∃ v0_ : Value, e = .returned (.tuple #[v0_, .bool r2]) ∧ Kd.R (Kd.int .i64) 3 w' w.heap.size (fun _ => True) v0_ r1 ∧ Below w.heap.size w w' := by
 have hu25 := Try.underlying25; have HR0_1 := Aside0.mk hr0_1; have HC0_1 := Aside0.mk hc0_1; clear hr0_1 hc0_1; have HR1 := Aside0.mk hr1; have HC1 := Aside0.mk hc1; clear hr1 hc1; have HR2 := Aside0.mk hr2; have HC2 := Aside0.mk hc2; clear hr2 hc2; have HB := Aside0.mk (Below.refl w.heap.size w); have H : ((spec_PileOk.f k a0_0 l0_1 l1 a3).bind fun t102 => (if t102 = true then ((spec_PileOk.f k a0_0 l0_1 l2 a3).bind fun t103 => (spec_SumOfPiles.j0 k l1 l2 a3 (!t103) a0_0 l0_1)) else (spec_SumOfPiles.j0 k l1 l2 a3 true a0_0 l0_1))) = some (r1, r2) := h; clear h; have HC5 := Aside0.mk H; clear H; go_enter Try.func24, Try.ntmps24; (go_upto_region 1 with (first | ((with_reducible refine gate_dst (N := 4) rfl ?_); refine box_event ?hg (N := 4) ?hd (cs := #[.int .i64 a0_0, .slice A0_1 l0_1.length c0_1]) (t := 25) ?hr ?_; (case hd => rfl); (case hg => rfl); (case hr => exact zz14); intro gb101 hg w6 hbox hb; have n_ := zA4 (below_step zz1 hb) hbox (zz11 : w.heap.size ≤ gb101) (zz11 : w.heap.size ≤ gb101); clear HB; obtain ⟨HB, BK101, GW101, GE101⟩ := n_; clear hb hbox hg))); (try simp only [Act.put, List.setIfInBounds_toArray, List.set_cons_zero, List.set_cons_succ]); go_cut [26] (fun v26 wc => ∃ (kq : Nat) (x26_4 : Bool), v26 = .bool x26_4 ∧ Aside0 (spec_SumOfPiles.j0 kq l1 l2 a3 x26_4 a0_0 l0_1 = some (r1, r2)) ∧ Aside0 (kq ≤ k) ∧ Aside0 (wc.heap[gb101]? = some (.cells #[.int .i64 a0_0, (.slice A0_1 l0_1.length c0_1)] 25 (0, 0))) ∧ Aside0 (Below w.heap.size w wc))
 case first =>
  have H := HC5.out; clear HC5; replace H := Option.bind_eq_some_iff.mp H; obtain ⟨t102, A70, H⟩ := H; (try dsimp only at H); have A7 := Aside0.mk A70; clear A70; by_cases c8 : t102 = true; rotate_left
  ·replace c8 := Bool.eq_false_iff.mpr c8; subst c8; rw [if_neg (show ¬ (false = true) by decide)] at H; have H' := Aside0.mk H; clear H; have hcz14_0 := zC20 BK101; have hcz14_1 := zC21 BK101; have hfz14_0 := blk_frozen BK101.out 0; have hfz14_1 := blk_frozen BK101.out 1; (go_wp2_with (first | ((with_reducible refine gate_callee (f := 65) rfl ?_); refine goesL_ (some 18) rfl rfl Try.func65 (by kernel_rfl) rfl #[.agg #[.int .i64 a0_0, .slice A0_1 l0_1.length c0_1], .slice A1 l1.length c1, .int .i64 a3] rfl zz3 ?_; (with_reducible refine (spec_PileOk.calls k a0_0 _ _ l0_1 _ _ l1 a3 false _ ?side1 ?side2 ?side3 ?side4 A7.out).mono ?_); (case side1 => exact zz5); (case side2 => exact HC0_1.out); (case side3 => exact zz10); (case side4 => exact HC1.out); rintro e w15 ⟨rfl, hb⟩; refine ⟨_, rfl, ?_⟩; have n_ := zA2 (blk_below (g := gb101) (o := .cells #[.int .i64 a0_0, .slice A0_1 l0_1.length c0_1] 25 (0, 0)) zz2 hb) (below_step zz0 hb); clear BK101 HB; obtain ⟨BK101, HB⟩ := n_; clear hb))); (go_meet); case rel => exact ⟨_, (true), zz8, H', ⟨by first | omega | exact Nat.le_refl _⟩, ⟨zz2⟩, ⟨zz0⟩⟩
  subst c8; rw [if_pos rfl] at H; replace H := Option.bind_eq_some_iff.mp H; obtain ⟨t103, A90, H⟩ := H; (try dsimp only at H); have A9 := Aside0.mk A90; clear A90; have H' := Aside0.mk H; clear H; have hcz10_0 := zC20 BK101; have hcz10_1 := zC21 BK101; have hfz10_0 := blk_frozen BK101.out 0; have hfz10_1 := blk_frozen BK101.out 1; (go_wp2_with (first | ((with_reducible refine gate_callee (f := 65) rfl ?_); refine goesL_ (some 18) rfl rfl Try.func65 (by kernel_rfl) rfl #[.agg #[.int .i64 a0_0, .slice A0_1 l0_1.length c0_1], .slice A1 l1.length c1, .int .i64 a3] rfl zz3 ?_; (with_reducible refine (spec_PileOk.calls k a0_0 _ _ l0_1 _ _ l1 a3 true _ ?side1 ?side2 ?side3 ?side4 A7.out).mono ?_); (case side1 => exact zz5); (case side2 => exact HC0_1.out); (case side3 => exact zz10); (case side4 => exact HC1.out); rintro e w11 ⟨rfl, hb⟩; refine ⟨_, rfl, ?_⟩; have n_ := zA2 (blk_below (g := gb101) (o := .cells #[.int .i64 a0_0, .slice A0_1 l0_1.length c0_1] 25 (0, 0)) zz2 hb) (below_step zz0 hb); clear BK101 HB; obtain ⟨BK101, HB⟩ := n_; clear hb; have hcz12_0 := zC20 BK101; have hcz12_1 := zC21 BK101; have hfz12_0 := blk_frozen BK101.out 0; have hfz12_1 := blk_frozen BK101.out 1) | (go_at_call 65; (with_reducible refine (spec_PileOk.calls k a0_0 _ _ l0_1 _ _ l2 a3 t103 _ ?side1 ?side2 ?side3 ?side4 A9.out).mono ?_); (case side1 => exact zz5); (case side2 => exact HC0_1.out); (case side3 => exact zz23); (case side4 => exact HC2.out); rintro e w13 ⟨rfl, hb⟩; have n_ := zA2 (blk_below (g := gb101) (o := .cells #[.int .i64 a0_0, .slice A0_1 l0_1.length c0_1] 25 (0, 0)) zz2 hb) (below_step zz0 hb); clear BK101 HB; obtain ⟨BK101, HB⟩ := n_; (try clear hb); (try clear hb2); (try clear hk); (try clear hi)))); (go_meet); case rel => exact ⟨_, (!t103), zz8, H', ⟨by first | omega | exact Nat.le_refl _⟩, ⟨zz2⟩, ⟨zz0⟩⟩
 case rest =>
  clear HC5; (try clear c1); (try clear c2); (try clear p2); (try clear c6); (try clear c8); (try clear hcz10_0); (try clear hcz10_1); (try clear hcz12_0); (try clear hcz12_1); (try clear hcz14_0); (try clear hcz14_1); (try clear hfz10_0); (try clear hfz10_1); (try clear hfz12_0); (try clear hfz12_1); (try clear hfz14_0); (try clear hfz14_1); obtain ⟨kq, x26_4, rfl, HA, HJ4, BK101, HB⟩ := hcut
  cases kq with
  | zero => exact absurd HA.out (by simp [spec_SumOfPiles.j0])
  | succ kj4 =>
   have H := HA.out; clear HA; simp only [spec_SumOfPiles.j0] at H; by_cases c16 : x26_4 = true
   ·subst c16; rw [if_pos rfl] at H; simp only [Option.some.injEq, Prod.mk.injEq] at H; obtain ⟨rfl, rfl⟩ := H; go_wp2; (go_ret2); exact ⟨_, zz6, zz42, zz0⟩
   replace c16 := Bool.eq_false_iff.mpr c16; subst c16; rw [if_neg (show ¬ (false = true) by decide)] at H; replace H := Option.bind_eq_some_iff.mp H; obtain ⟨⟨t104, t105⟩, A170, H⟩ := H; dsimp only at H; have A17 := Aside0.mk A170; clear A170; replace H := Option.bind_eq_some_iff.mp H; obtain ⟨⟨t108, t111, t114⟩, A180, H⟩ := H; dsimp only at H; have A18 := Aside0.mk A180; clear A180; simp only [Option.some.injEq, Prod.mk.injEq] at H; obtain ⟨rfl, rfl⟩ := H; (go_wp2_with (first | ((with_reducible refine gate_callee (f := 66) rfl ?_); refine goesL_ (some 30) rfl rfl Try.func66 (by kernel_rfl) rfl #[.slice A1 l1.length c1, .slice A2 l2.length c2] rfl zz3 ?_; (with_reducible refine (spec_AddDivisors.calls kj4 _ _ l1 _ _ l2 t104 t105 _ ?side1 ?side2 ?side3 ?side4 A17.out).mono ?_); (case side1 => exact zz10); (case side2 => exact HC1.out); (case side3 => exact zz23); (case side4 => exact HC2.out); rintro e w19 ⟨v106, rfl, ho0, hb⟩; refine ⟨_, rfl, ?_⟩; have n_ := zA3 (Kd.R_lower ho0 (below_size zz0)) (blk_below (g := gb101) (o := .cells #[.int .i64 a0_0, .slice A0_1 l0_1.length c0_1] 25 (0, 0)) zz2 hb) (below_step zz0 hb); clear BK101 HB; obtain ⟨HO107, BK101, HB⟩ := n_; clear ho0 hb; have hcz20_0 := zC20 BK101; have hcz20_1 := zC21 BK101; have hfz20_0 := blk_frozen BK101.out 0; have hfz20_1 := blk_frozen BK101.out 1; obtain ⟨Ao21, co21, eo21⟩ := Kd.R_slice HO107.out; subst eo21) | ((with_reducible refine gate_callee (f := 67) rfl ?_); refine goesL_ (some 37) rfl rfl Try.func67 (by kernel_rfl) rfl #[.agg #[.int .i64 a0_0, .slice A0_1 l0_1.length c0_1], .slice Ao21 t104.length co21, .int .i64 a3] rfl zz3 ?_; (with_reducible refine (spec_Stabilize.calls kj4 a0_0 _ _ l0_1 _ _ t104 a3 t108 t111 t114 _ ?side1 ?side2 ?side3 ?side4 A18.out).mono ?_); (case side1 => exact zz5); (case side2 => exact HC0_1.out); (case side3 => repeat (first | exact (Kd.R_reads' HO107.out).2.2 | (with_reducible refine Kd.C_alloc ?_ _) | (with_reducible refine Kd.C_drewN ?_ _) | (with_reducible refine Kd.C_drew ?_))); (case side4 => exact (Kd.R_reads' HO107.out).2.1); rintro e w22 ⟨v109, v112, rfl, ho0, ho1, hb⟩; refine ⟨_, rfl, ?_⟩; have n_ := zA5 (Kd.R_mono (Kd.R_told (Kd.R_told (Kd.R_old zz44 hb) (Kd.R_base ho0)) (Kd.R_base ho1)) (fun _ h_ => h_.1)) (Kd.R_lower (Kd.R_new' ho0 (Kd.R_lt zz44)) (below_size zz0)) (Kd.R_lower (Kd.R_new' ho1 (Kd.R_lt zz44)) (below_size zz0)) (blk_below (g := gb101) (o := .cells #[.int .i64 a0_0, .slice A0_1 l0_1.length c0_1] 25 (0, 0)) zz2 hb) (below_step zz0 hb); clear HO107 BK101 HB; obtain ⟨HO107, HO110, HO113, BK101, HB⟩ := n_; clear ho0 ho1 hb))); (go_ret2); exact ⟨_, zz6, by (with_reducible repeat (first | apply Kd.R_alloc | apply Kd.R_drewN | apply Kd.R_drew)); exact Kd.R_mono HO110.out (fun _ hk => trivial), zz0⟩
def laws_toEdge.f (a0_0 : Int) (a0_1 : Int) : Option (Int × Int) := some (a0_0, a0_1)
set_option maxHeartbeats 8000000 in
set_option maxRecDepth 100000 in
theorem laws_toEdge.calls (a0_0 : Int) (a0_1 : Int) (r1 : Int) (r2 : Int) (w : World) (h : laws_toEdge.f a0_0 a0_1 = some (r1, r2)) :
  Calls Try.prog 94 #[.agg #[.int .i64 a0_0, .int .i64 a0_1]] w fun e w' => e = .returned (.agg #[.int .i64 r1, .int .i64 r2]) ∧ Below w.heap.size w w' := by
 have hu92 := Try.underlying92; have hu83 := Try.underlying83; have HB := Aside0.mk (Below.refl w.heap.size w); have H : (some (a0_0, a0_1)) = some (r1, r2) := h; clear h; simp only [Option.some.injEq, Prod.mk.injEq] at H; obtain ⟨rfl, rfl⟩ := H; go_enter Try.func94, Try.ntmps94; (go_wp2_with (first | ((with_reducible refine gate_dst (N := 1) rfl ?_); refine box_event ?hg (N := 1) ?hd (cs := #[.int .i64 a0_0, .int .i64 a0_1]) (t := 92) ?hr ?_; (case hd => rfl); (case hg => rfl); (case hr => exact zz14); intro gb101 hg w2 hbox hb; have n_ := zA4 (below_step zz1 hb) hbox (zz11 : w.heap.size ≤ gb101) (zz11 : w.heap.size ≤ gb101); clear HB; obtain ⟨HB, BK101, GW101, GE101⟩ := n_; clear hb hbox hg) | ((with_reducible refine gate_dst (N := 2) rfl ?_); refine box_event ?hg (N := 2) ?hd (cs := #[.int .i64 0, .int .i64 0]) (t := 83) ?hr ?_; (case hd => rfl); (case hg => rfl); (case hr => exact zz14); intro gb102 hg w3 hbox hb; have n_ := zA7 (blk_below (g := gb101) (o := .cells #[.int .i64 a0_0, .int .i64 a0_1] 92 (0, 0)) zz2 hb) (below_step zz0 hb) hbox (zz15 : w.heap.size ≤ gb102) (zz15 : w.heap.size ≤ gb102) (by rw [hg]; exact Nat.ne_of_lt (blk_lt (g := gb101) (o := .cells #[.int .i64 a0_0, .int .i64 a0_1] 92 (0, 0)) zz2) : gb101 ≠ gb102) (by rw [hg]; exact Nat.ne_of_gt (blk_lt (g := gb101) (o := .cells #[.int .i64 a0_0, .int .i64 a0_1] 92 (0, 0)) zz2) : gb102 ≠ gb101); clear BK101 HB; obtain ⟨BK101, HB, BK102, GW102, GE102, NB101_102, NB102_101⟩ := n_; clear hb hbox hg) | ((with_reducible refine gate_dst (N := 3) rfl ?_); refine box_event ?hg (N := 3) ?hd (cs := #[.int .i64 0, .int .i64 0]) (t := 83) ?hr ?_; (case hd => rfl); (case hg => rfl); (case hr => exact zz14); intro gb103 hg w4 hbox hb; have n_ := zA10 (blk_below (g := gb101) (o := .cells #[.int .i64 a0_0, .int .i64 a0_1] 92 (0, 0)) zz2 hb) (blk_below (g := gb102) (o := .cells #[.int .i64 0, .int .i64 0] 83 (0, 0)) zz32 hb) (below_step zz22 hb) hbox (by rw [hg]; exact (below_size zz22) : w.heap.size ≤ gb103) (by rw [hg]; exact (below_size zz22) : w.heap.size ≤ gb103) (by rw [hg]; exact Nat.ne_of_lt (blk_lt (g := gb101) (o := .cells #[.int .i64 a0_0, .int .i64 a0_1] 92 (0, 0)) zz2) : gb101 ≠ gb103) (by rw [hg]; exact Nat.ne_of_gt (blk_lt (g := gb101) (o := .cells #[.int .i64 a0_0, .int .i64 a0_1] 92 (0, 0)) zz2) : gb103 ≠ gb101) (by rw [hg]; exact Nat.ne_of_lt (blk_lt (g := gb102) (o := .cells #[.int .i64 0, .int .i64 0] 83 (0, 0)) zz32) : gb102 ≠ gb103) (by rw [hg]; exact Nat.ne_of_gt (blk_lt (g := gb102) (o := .cells #[.int .i64 0, .int .i64 0] 83 (0, 0)) zz32) : gb103 ≠ gb102); clear BK101 BK102 HB; obtain ⟨BK101, BK102, HB, BK103, GW103, GE103, NB101_103, NB103_101, NB102_103, NB103_102⟩ := n_; clear hb hbox hg; have hnb5 := NB101_102.out; have hnc5 := NB102_101.out; have hnb6 := NB101_103.out; have hnc6 := NB103_101.out; have hcz7_0 := zC20 BK101; have hcz7_1 := zC21 BK101; have hfz7_0 := blk_frozen BK101.out 0; have hfz7_1 := blk_frozen BK101.out 1; have hnb8 := NB103_102.out; have hnc8 := NB102_103.out; have hcz9_0 := zC20 BK103; have hcz9_1 := zC21 BK103; have hfz9_0 := blk_frozen BK103.out 0; have hfz9_1 := blk_frozen BK103.out 1; have hcz10_0 := zC20 BK102; have hcz10_1 := zC21 BK102; have hfz10_0 := blk_frozen BK102.out 0; have hfz10_1 := blk_frozen BK102.out 1))); refine bodyPost_ret (results_cell_row rfl _ _ gb102 83 #[.int .i64 a0_0, .int .i64 a0_1] (0, 0) _ rfl (by (with_reducible repeat (first | refine blk_drewN ?_ _ | refine blk_drew ?_ | refine blk_alloc ?_ _)); refine blk_put (cs := #[.int .i64 a0_0, .int .i64 0]) ?_ 1 _ rfl; (with_reducible repeat (first | refine blk_drewN ?_ _ | refine blk_drew ?_ | refine blk_alloc ?_ _)); refine blk_put (cs := #[.int .i64 0, .int .i64 0]) ?_ 0 _ rfl; (with_reducible repeat (first | refine blk_drewN ?_ _ | refine blk_drew ?_ | refine blk_alloc ?_ _)); refine blk_far ?_ NB102_103.out _; (with_reducible repeat (first | refine blk_drewN ?_ _ | refine blk_drew ?_ | refine blk_alloc ?_ _)); refine blk_far ?_ NB102_103.out _; (with_reducible repeat (first | refine blk_drewN ?_ _ | refine blk_drew ?_ | refine blk_alloc ?_ _)); exact BK102.out) Try.underlying83 rfl (by kernel_rfl)) rfl ?_; exact ⟨zz6, by repeat (first | (with_reducible first | exact HB.out | apply below_alloc | apply pw_below_drewN | apply below_drew1 | refine below_set ?_ GE101.out | refine below_set ?_ GE102.out | refine below_set ?_ GE103.out) | exact HB.out)⟩
def laws_toEdgeS.l0 : Nat → List (S92) → List (S83) → Int → Option ((List (S83)))
 | 0, _, _, _ => none
 | k + 1, x0, x3, x4 => if x4 < (x0.length : Int) then (if 0 ≤ x4 then ((laws_toEdge.f ((rd_T92 x0 x4).f0) ((rd_T92 x0 x4).f1)).bind fun bt105 => (if x4 < (x3.length : Int) then (laws_toEdgeS.l0 k x0 (x3.set (x4 : Int).toNat (⟨bt105.1, bt105.2⟩ : S83)) (wrap64 (x4 + 1))) else (none))) else (none)) else (some x3)
def laws_toEdgeS.f (k : Nat) (l0 : List (S92)) : Option ((List (S83))) := if 0 ≤ (l0.length : Int) then (if ((l0.length : Int) : Int).toNat ≤ 17592186044416 then (laws_toEdgeS.l0 k l0 (List.replicate ((l0.length : Int) : Int).toNat z83) 0) else (none)) else (none)
theorem laws_toEdgeS.mono_l : ∀ k, (∀ y0 y1 y2, LeO (laws_toEdgeS.l0 k y0 y1 y2) (laws_toEdgeS.l0 (k + 1) y0 y1 y2))
 | 0 => fun _ _ _ r h => by simp [laws_toEdgeS.l0] at h
 | k + 1 => by
  have ih0 := laws_toEdgeS.mono_l k
  ·intro y0 y1 y2
   unfold laws_toEdgeS.l0
   exact zm0
theorem laws_toEdgeS.mono : ∀ a0 k, LeO (laws_toEdgeS.f k a0) (laws_toEdgeS.f (k + 1) a0) := by
 intro a0 k; have ih0 := laws_toEdgeS.mono_l k; unfold laws_toEdgeS.f; exact zm0
set_option maxHeartbeats 8000000 in
set_option maxRecDepth 100000 in
theorem laws_toEdgeS.calls (k : Nat) (A0 : Option Addr) (c0 : Nat) (l0 : List (S92)) (r : List (S83)) (w : World) (hr0 : Kd.C k92 w A0 l0.length l0) (hc0 : l0.length ≤ c0) (h : laws_toEdgeS.f k l0 = some r) :
  Calls Try.prog 68 #[.slice A0 l0.length c0] w fun e w' => ∃ v0_ : Value, e = .returned (v0_) ∧ Kd.R k83 83 w' w.heap.size (fun _ => True) v0_ r ∧ Below w.heap.size w w' := by
 have hu92 := Try.underlying92; have hu83 := Try.underlying83; have HR0 := Aside0.mk hr0; have HC0 := Aside0.mk hc0; clear hr0 hc0; have HB := Aside0.mk (Below.refl w.heap.size w); have H : (if 0 ≤ (l0.length : Int) then (if ((l0.length : Int) : Int).toNat ≤ 17592186044416 then (laws_toEdgeS.l0 k l0 (List.replicate ((l0.length : Int) : Int).toNat z83) 0) else (none)) else (none)) = some r := h; clear h; by_cases c2 : 0 ≤ (l0.length : Int); rotate_left
 ·rw [if_neg c2] at H; exact absurd H (by simp)
 rw [if_pos c2] at H; have c2b0 := eq_true c2; have c2b1 : decide (0 ≤ (l0.length : Int)) = true := decide_eq_true c2; clear c2; by_cases c3 : ((l0.length : Int) : Int).toNat ≤ 17592186044416; rotate_left
 ·rw [if_neg c3] at H; exact absurd H (by simp)
 rw [if_pos c3] at H; have c3b0 := eq_true c3; have c3b1 : decide (((l0.length : Int) : Int).toNat ≤ 17592186044416) = true := decide_eq_true c3; clear c3; obtain ⟨y101, hy_⟩ : ∃ y_ : List (S83), y_ = (List.replicate ((l0.length : Int) : Int).toNat z83) := ⟨_, rfl⟩; (replace H : (laws_toEdgeS.l0 k l0 y101 0) = some r := zzY); have Ny101 := Aside0.mk hy_; clear hy_; have H' := Aside0.mk H; clear H; go_enter Try.func68, Try.ntmps68; (go_wp2_with (first | ((with_reducible refine gate_dst (N := 7) rfl ?_); refine Kd.R_make k83 _ 83 rfl (N := 7) rfl 23 _ _ rfl (l0.length : Int) rfl rfl Try.underlying23 (.agg #[(.int .i64 0), (.int .i64 0)]) 16 info83 rfl (by decide) (by omega) z83 (ok := fun _ => True) (okp := fun _ => True) (k83_mkM _ _ _ z83 ) (fun _ hk => hk) trivial (of_decide_eq_true zz4) (Nat.le_trans (Nat.mul_le_mul_right _ (of_decide_eq_true zz4 : (l0.length : Int).toNat ≤ 17592186044416)) (by omega)) (Below.refl _ _) (Nat.le_refl _) ?_; intro v102 w4 ho5 hb hg_ hnew_; clear hg_ hnew_; (first | rw [← Ny101.out] at ho5 | (simp only [Int.reduceToNat] at ho5; rw [← Ny101.out] at ho5)); have n_ := zA2 (Kd.R_lower ho5 (below_size zz1)) (below_step zz1 hb); clear HB; obtain ⟨HO103, HB⟩ := n_; clear hb ho5))); (go_loopg [4] k (fun kq v4 w' => ∃ (x3_1 : List (S83)) (x4_1 : Int), v4 = .int .i64 x4_1 ∧ Aside0 (laws_toEdgeS.l0 kq l0 x3_1 x4_1 = some r) ∧ Aside0 (kq ≤ k) ∧ Aside0 (Kd.R k83 83 w' w.heap.size (fun _ => True) v102 x3_1) ∧ Aside0 (Below w.heap.size w w'))); case atStart => exact ⟨(y101), (0), zz8, H', ⟨Nat.le_refl _⟩, ⟨zz60⟩, ⟨zz1⟩⟩
 case round =>
  clear H'; (try clear c2); (try clear c2b0); (try clear c2b1); (try clear p2); (try clear c3); (try clear c3b0); (try clear c3b1); obtain ⟨x3_1, x4_1, rfl, HA, HK1, HO_3, HB⟩ := hrel
  cases gk with
  | zero => exact absurd HA.out (by simp [laws_toEdgeS.l0])
  | succ k1 =>
   have H := HA.out; clear HA; simp only [laws_toEdgeS.l0] at H; by_cases c6 : x4_1 < (l0.length : Int); rotate_left
   ·rw [if_neg c6] at H; have c6b0 := decide_eq_false c6; clear c6; obtain rfl := Option.some.inj H; go_wp2; go_ret; exact ⟨_, zz6, zz19, zz1⟩
   rw [if_pos c6] at H; have c6b0 := decide_eq_true c6; clear c6; by_cases c7 : 0 ≤ x4_1; rotate_left
   ·rw [if_neg c7] at H; exact absurd H (by simp)
   rw [if_pos c7] at H; have c7b0 := decide_eq_true c7; clear c7; replace H := Option.bind_eq_some_iff.mp H; obtain ⟨⟨t105, t106⟩, A80, H⟩ := H; dsimp only at H; have A8 := Aside0.mk A80; clear A80; by_cases c9 : x4_1 < (x3_1.length : Int); rotate_left
   ·rw [if_neg c9] at H; exact absurd H (by simp)
   rw [if_pos c9] at H; have c9b0 := decide_eq_true c9; clear c9; obtain ⟨y107, hy_⟩ : ∃ y_ : List (S83), y_ = (x3_1.set (x4_1 : Int).toNat (⟨t105, t106⟩ : S83)) := ⟨_, rfl⟩; (replace H : (laws_toEdgeS.l0 k1 l0 y107 (wrap64 (x4_1 + 1))) = some r := zzY); have Ny107 := Aside0.mk hy_; clear hy_; have H' := Aside0.mk H; clear H; have p104 : 0 ≤ (x4_1 : Int) := of_decide_eq_true zz4; have q104 : x4_1 < (l0.length : Int) := of_decide_eq_true zz4; obtain ⟨ad104, e104, hx104_0, hx104_1⟩ := at_T92 HR0.out x4_1 p104 q104; cases e104; replace hx104_0 := (HB.out.cell (World.block_lt_of_cell? w _ hx104_0)).trans hx104_0; replace hx104_1 := (HB.out.cell (World.block_lt_of_cell? w _ hx104_1)).trans hx104_1; replace p104 := eq_true p104; replace q104 := eq_true q104; (go_wp2_with (first | ((with_reducible refine gate_callee (f := 94) rfl ?_); refine goesL_ (some 20) rfl rfl Try.func94 (by kernel_rfl) rfl #[.agg #[.int .i64 ((rd_T92 l0 x4_1).f0), .int .i64 ((rd_T92 l0 x4_1).f1)]] rfl zz3 ?_; (with_reducible refine (laws_toEdge.calls ((rd_T92 l0 x4_1).f0) ((rd_T92 l0 x4_1).f1) t105 t106 _ A8.out).mono ?_); rintro e w11 ⟨rfl, hb⟩; refine ⟨_, rfl, ?_⟩; have n_ := zA2 (Kd.R_below zz19 hb) (below_step zz1 hb); clear HO_3 HB; obtain ⟨HO_3, HB⟩ := n_; clear hb; have p10 : 0 ≤ (x4_1 : Int) := of_decide_eq_true zz4; have q10 : (x4_1 : Int) < ((x3_1.length : Int) : Int) := of_decide_eq_true zz4; obtain ⟨go10, co10, eo10, gb10, gl10, cl10, HG10⟩ := Kd.R_form HO_3.out (by omega); (first | cases eo10 | (injection eo10 with ea_ en_ ec_; (first | subst ea_ | (injection ea_ with ea_; subst ea_)); subst ec_; clear en_)); have GB10 := Aside0.mk gb10; have GG10 := Aside0.mk HG10; clear gb10 gl10 HG10; obtain ⟨ce10, hcl10, hM10, hcc10, hfr10⟩ := Kd.R_elem HO_3.out z83 (x4_1 : Int) p10 q10; obtain rfl := k83_openM hM10; have hx10_0 : w11.cell? ⟨go10, (x4_1 : Int).toNat * 2, none⟩ = some (.int .i64 ((rd_T83 x3_1 x4_1).f0)) := hcc10 0 _ rfl; have hx10_1 : w11.cell? ⟨go10, (x4_1 : Int).toNat * 2 + 1, none⟩ = some (.int .i64 ((rd_T83 x3_1 x4_1).f1)) := hcc10 1 _ rfl; have hf10_0 : w11.frozen? ⟨go10, (x4_1 : Int).toNat * 2, none⟩ = false := hfr10 0; have hf10_1 : w11.frozen? ⟨go10, (x4_1 : Int).toNat * 2 + 1, none⟩ = false := hfr10 1; clear hcl10 hcc10 hfr10; (try clear hM10); replace p10 := eq_true p10; replace q10 := eq_true q10; have HX12 := Aside0.mk (show Kd.R k83 83 w11 w.heap.size (fun _ => True) (.slice (some ⟨go10, 0, none⟩) x3_1.length co10) x3_1 from zz19); obtain ⟨ce12, hcl12, hM12, hcc12, hfr12⟩ := Kd.R_elem HX12.out z83 (x4_1 : Int) (of_decide_eq_true zz4) (by have h_ : (x4_1 : Int) < ((x3_1.length : Int) : Int) := of_decide_eq_true zz4; first | exact h_ | (have e_ := (Kd.R_reads' HO_3.out).1; omega) | simpa using h_); obtain rfl := k83_openM hM12; have HP12 := Kd.R_seg HX12.out (x4_1 : Int) (of_decide_eq_true zz4) (by have h_ : (x4_1 : Int) < ((x3_1.length : Int) : Int) := of_decide_eq_true zz4; first | exact h_ | (have e_ := (Kd.R_reads' HO_3.out).1; omega) | simpa using h_) (seg := [.int .i64 t105, .int .i64 t106]) (j := 0) hcl12 hcc12 (show 2 ≤ 2 from by decide) (x' := (⟨t105, t106⟩ : S83)) (k83_mkM _ _ _ (⟨t105, t106⟩ : S83) ) (fun _ hk => hk); have hx12_0 := hcc12 0 _ rfl; (try simp only [show (k83).sz = 2 from rfl, Nat.mul_one, Nat.add_zero] at hx12_0); have hf12_0 := hfr12 0; (try simp only [show (k83).sz = 2 from rfl, Nat.mul_one, Nat.add_zero] at hf12_0); have hx12_1 := hcc12 1 _ rfl; (try simp only [show (k83).sz = 2 from rfl, Nat.mul_one, Nat.add_zero] at hx12_1); have hf12_1 := hfr12 1; (try simp only [show (k83).sz = 2 from rfl, Nat.mul_one, Nat.add_zero] at hf12_1); clear hcl12 hcc12 hfr12; (try clear hM12)) | ((with_reducible refine gate_store (t := 83) (p := 21) rfl ?_); refine store_event (t := 83) (p := 21) (v := ?vo_w13) (w1 := ((w11.setCell ⟨go10, (x4_1 : Int).toNat * 2, none⟩ (.int .i64 t105)).setCell ⟨go10, (x4_1 : Int).toNat * 2 + 1, none⟩ (.int .i64 t106))) ?hg ?ho ?hn ?hr ?_; (case ho => rfl); (case hg => rfl); (case hn => rfl); (case hr => exact zz14); intro w13 hw; have hg : w11.grownBy w13 (some go10) := (by rw [hw]; exact HP12.2); have hp_ : Kd.R k83 83 w13 w.heap.size (fun _ => True) (.slice (some ⟨go10, 0, none⟩) x3_1.length co10) y107 := (by rw [hw, Ny107.out]; exact HP12.1); clear HP12; have n_ := zA2 hp_ (by rw [hw]; exact below_set (below_set (HB.out) GB10.out) GB10.out : Below w.heap.size w w13); clear HO_3 HB; obtain ⟨HO_3, HB⟩ := n_; clear hg hw hp_))); go_roundg k1; (case measure => have := HK1.out; omega); case rel => exact ⟨(y107), (wrap64 (x4_1 + 1)), zz8, H', ⟨zz41⟩, ⟨zz19⟩, ⟨zz1⟩⟩
def laws_toGraph.f (k : Nat) (a0_0 : Int) (l0_1 : List (S92)) : Option (Int × (List (S83))) := (laws_toEdgeS.f k l0_1).bind fun t104 => (some (a0_0, t104))
theorem laws_toGraph.mono : ∀ a0 a1 k, LeO (laws_toGraph.f k a0 a1) (laws_toGraph.f (k + 1) a0 a1) := by
 intro a0 a1 k; unfold laws_toGraph.f; repeat' first | (with_reducible apply laws_toEdgeS.mono) | (with_reducible exact LeO.refl _) | (with_reducible exact LeO.none _) | (with_reducible refine LeO.ite ?_ ?_) | (with_reducible refine LeO.bind ?_ (fun _ => ?_)) | apply laws_toEdgeS.mono | exact LeO.none _ | refine LeO.ite ?_ ?_ | refine LeO.bind ?_ (fun _ => ?_)
set_option maxHeartbeats 8000000 in
set_option maxRecDepth 100000 in
theorem laws_toGraph.calls (k : Nat) (a0_0 : Int) (A0_1 : Option Addr) (c0_1 : Nat) (l0_1 : List (S92)) (r1 : Int) (r2 : List (S83)) (w : World) (hr0_1 : Kd.C k92 w A0_1 l0_1.length l0_1) (hc0_1 : l0_1.length ≤ c0_1) (h : laws_toGraph.f k a0_0 l0_1 = some (r1, r2)) :
  Calls Try.prog 25 #[.agg #[.int .i64 a0_0, .slice A0_1 l0_1.length c0_1]] w fun e w' => ∃ v1_ : Value, e = .returned (.agg #[.int .i64 r1, v1_]) ∧ Kd.R k83 83 w' w.heap.size (fun _ => True) v1_ r2 ∧ Below w.heap.size w w' := by
 have hu44 := Try.underlying44; have hu25 := Try.underlying25; have HR0_1 := Aside0.mk hr0_1; have HC0_1 := Aside0.mk hc0_1; clear hr0_1 hc0_1; have HB := Aside0.mk (Below.refl w.heap.size w); have H : ((laws_toEdgeS.f k l0_1).bind fun t104 => (some (a0_0, t104))) = some (r1, r2) := h; clear h; replace H := Option.bind_eq_some_iff.mp H; obtain ⟨t104, A20, H⟩ := H; (try dsimp only at H); have A2 := Aside0.mk A20; clear A20; simp only [Option.some.injEq, Prod.mk.injEq] at H; obtain ⟨rfl, rfl⟩ := H; go_enter Try.func25, Try.ntmps25; (go_wp2_with (first | ((with_reducible refine gate_dst (N := 1) rfl ?_); refine box_event ?hg (N := 1) ?hd (cs := #[.int .i64 a0_0, .slice A0_1 l0_1.length c0_1]) (t := 44) ?hr ?_; (case hd => rfl); (case hg => rfl); (case hr => exact zz14); intro gb101 hg w3 hbox hb; have n_ := zA4 (below_step zz1 hb) hbox (zz11 : w.heap.size ≤ gb101) (zz11 : w.heap.size ≤ gb101); clear HB; obtain ⟨HB, BK101, GW101, GE101⟩ := n_; clear hb hbox hg) | ((with_reducible refine gate_dst (N := 2) rfl ?_); refine box_event ?hg (N := 2) ?hd (cs := #[.int .i64 0, .slice none 0 0]) (t := 25) ?hr ?_; (case hd => rfl); (case hg => rfl); (case hr => exact zz14); intro gb102 hg w4 hbox hb; have n_ := zA7 (blk_below (g := gb101) (o := .cells #[.int .i64 a0_0, .slice A0_1 l0_1.length c0_1] 44 (0, 0)) zz2 hb) (below_step zz0 hb) hbox (zz15 : w.heap.size ≤ gb102) (zz15 : w.heap.size ≤ gb102) (by rw [hg]; exact Nat.ne_of_lt (blk_lt (g := gb101) (o := .cells #[.int .i64 a0_0, .slice A0_1 l0_1.length c0_1] 44 (0, 0)) zz2) : gb101 ≠ gb102) (by rw [hg]; exact Nat.ne_of_gt (blk_lt (g := gb101) (o := .cells #[.int .i64 a0_0, .slice A0_1 l0_1.length c0_1] 44 (0, 0)) zz2) : gb102 ≠ gb101); clear BK101 HB; obtain ⟨BK101, HB, BK102, GW102, GE102, NB101_102, NB102_101⟩ := n_; clear hb hbox hg) | ((with_reducible refine gate_dst (N := 3) rfl ?_); refine box_event ?hg (N := 3) ?hd (cs := #[.int .i64 0, .slice none 0 0]) (t := 25) ?hr ?_; (case hd => rfl); (case hg => rfl); (case hr => exact zz14); intro gb103 hg w5 hbox hb; have n_ := zA10 (blk_below (g := gb101) (o := .cells #[.int .i64 a0_0, .slice A0_1 l0_1.length c0_1] 44 (0, 0)) zz2 hb) (blk_below (g := gb102) (o := .cells #[.int .i64 0, .slice none 0 0] 25 (0, 0)) zz32 hb) (below_step zz22 hb) hbox (by rw [hg]; exact (below_size zz22) : w.heap.size ≤ gb103) (by rw [hg]; exact (below_size zz22) : w.heap.size ≤ gb103) (by rw [hg]; exact Nat.ne_of_lt (blk_lt (g := gb101) (o := .cells #[.int .i64 a0_0, .slice A0_1 l0_1.length c0_1] 44 (0, 0)) zz2) : gb101 ≠ gb103) (by rw [hg]; exact Nat.ne_of_gt (blk_lt (g := gb101) (o := .cells #[.int .i64 a0_0, .slice A0_1 l0_1.length c0_1] 44 (0, 0)) zz2) : gb103 ≠ gb101) (by rw [hg]; exact Nat.ne_of_lt (blk_lt (g := gb102) (o := .cells #[.int .i64 0, .slice none 0 0] 25 (0, 0)) zz32) : gb102 ≠ gb103) (by rw [hg]; exact Nat.ne_of_gt (blk_lt (g := gb102) (o := .cells #[.int .i64 0, .slice none 0 0] 25 (0, 0)) zz32) : gb103 ≠ gb102); clear BK101 BK102 HB; obtain ⟨BK101, BK102, HB, BK103, GW103, GE103, NB101_103, NB103_101, NB102_103, NB103_102⟩ := n_; clear hb hbox hg; have hnb6 := NB101_102.out; have hnc6 := NB102_101.out; have hnb7 := NB101_103.out; have hnc7 := NB103_101.out; have hcz8_0 := zC20 BK101; have hcz8_1 := zC21 BK101; have hfz8_0 := blk_frozen BK101.out 0; have hfz8_1 := blk_frozen BK101.out 1; have hnb9 := NB103_102.out; have hnc9 := NB102_103.out; have hcz10_0 := zC20 BK103; have hcz10_1 := zC21 BK103; have hfz10_0 := blk_frozen BK103.out 0; have hfz10_1 := blk_frozen BK103.out 1) | ((with_reducible refine gate_callee (f := 68) rfl ?_); refine goesL_ (some 9) rfl rfl Try.func68 (by kernel_rfl) rfl #[.slice A0_1 l0_1.length c0_1] rfl zz3 ?_; (with_reducible refine (laws_toEdgeS.calls k _ _ l0_1 t104 _ ?side1 ?side2 A2.out).mono ?_); (case side1 => exact Kd.C_below HR0_1.out zz57); (case side2 => exact HC0_1.out); rintro e w11 ⟨v105, rfl, ho0, hb⟩; refine ⟨_, rfl, ?_⟩; have n_ := zA5 (Kd.R_lower ho0 (below_size zz57)) (blk_below (g := gb101) (o := .cells #[.int .i64 a0_0, .slice A0_1 l0_1.length c0_1] 44 (0, 0)) (by (with_reducible repeat (first | refine blk_drewN ?_ _ | refine blk_drew ?_ | refine blk_alloc ?_ _)); refine blk_far ?_ NB101_103.out _; (with_reducible repeat (first | refine blk_drewN ?_ _ | refine blk_drew ?_ | refine blk_alloc ?_ _)); exact BK101.out) hb) (blk_below (g := gb102) (o := .cells #[.int .i64 0, .slice none 0 0] 25 (0, 0)) (by (with_reducible repeat (first | refine blk_drewN ?_ _ | refine blk_drew ?_ | refine blk_alloc ?_ _)); refine blk_far ?_ NB102_103.out _; (with_reducible repeat (first | refine blk_drewN ?_ _ | refine blk_drew ?_ | refine blk_alloc ?_ _)); exact BK102.out) hb) (blk_below (g := gb103) (o := .cells #[.int .i64 a0_0, .slice none 0 0] 25 (0, 0)) (by (with_reducible repeat (first | refine blk_drewN ?_ _ | refine blk_drew ?_ | refine blk_alloc ?_ _)); refine blk_put (cs := #[.int .i64 0, .slice none 0 0]) ?_ 0 _ rfl; (with_reducible repeat (first | refine blk_drewN ?_ _ | refine blk_drew ?_ | refine blk_alloc ?_ _)); exact BK103.out) hb) (below_step zz57 hb); clear BK101 BK102 BK103 HB; obtain ⟨HO106, BK101, BK102, BK103, HB⟩ := n_; clear ho0 hb; obtain ⟨Ao12, co12, eo12⟩ := Kd.R_slice HO106.out; subst eo12; have hcz13_0 := zC20 BK103; have hcz13_1 := zC21 BK103; have hfz13_0 := blk_frozen BK103.out 0; have hfz13_1 := blk_frozen BK103.out 1; have hcz14_0 := zC20 BK102; have hcz14_1 := zC21 BK102; have hfz14_0 := blk_frozen BK102.out 0; have hfz14_1 := blk_frozen BK102.out 1))); refine bodyPost_ret (results_cell_row rfl _ _ gb102 25 #[.int .i64 a0_0, .slice Ao12 t104.length co12] (0, 0) _ rfl (by (with_reducible repeat (first | refine blk_drewN ?_ _ | refine blk_drew ?_ | refine blk_alloc ?_ _)); refine blk_put (cs := #[.int .i64 a0_0, .slice none 0 0]) ?_ 1 _ rfl; (with_reducible repeat (first | refine blk_drewN ?_ _ | refine blk_drew ?_ | refine blk_alloc ?_ _)); refine blk_put (cs := #[.int .i64 0, .slice none 0 0]) ?_ 0 _ rfl; (with_reducible repeat (first | refine blk_drewN ?_ _ | refine blk_drew ?_ | refine blk_alloc ?_ _)); refine blk_far ?_ NB102_103.out _; (with_reducible repeat (first | refine blk_drewN ?_ _ | refine blk_drew ?_ | refine blk_alloc ?_ _)); exact BK102.out) Try.underlying25 rfl (by kernel_rfl)) rfl ?_; exact ⟨_, zz6, by (with_reducible repeat (first | apply Kd.R_alloc | apply Kd.R_drewN | apply Kd.R_drew)); exact Kd.R_mono (Kd.R_far (p := ⟨gb102, 1, none⟩) (Kd.R_far (p := ⟨gb102, 0, none⟩) (Kd.R_far (p := ⟨gb103, 1, none⟩) (Kd.R_types (Kd.R_types HO106.out BK103.out (by decide)) BK102.out (by decide)) (fun _ hk => hk.1.2) (.slice Ao12 t104.length co12)) (fun _ hk => hk.2) (.int .i64 a0_0)) (fun _ hk => hk.2) (.slice Ao12 t104.length co12)) (fun _ hk => trivial), by repeat (first | (with_reducible first | exact HB.out | apply below_alloc | apply pw_below_drewN | apply below_drew1 | refine below_set ?_ GE101.out | refine below_set ?_ GE102.out | refine below_set ?_ GE103.out) | exact HB.out)⟩
def laws_eqEdge.f (a0_0 : Int) (a0_1 : Int) (a1_0 : Int) (a1_1 : Int) : Option (Bool) := if a0_0 = a1_0 then (if a0_1 = a1_1 then (some true) else (some false)) else (some false)
set_option maxHeartbeats 8000000 in
set_option maxRecDepth 100000 in
theorem laws_eqEdge.calls (a0_0 : Int) (a0_1 : Int) (a1_0 : Int) (a1_1 : Int) (r : Bool) (w : World) (h : laws_eqEdge.f a0_0 a0_1 a1_0 a1_1 = some r) :
  Calls Try.prog 95 #[.agg #[.int .i64 a0_0, .int .i64 a0_1], .agg #[.int .i64 a1_0, .int .i64 a1_1]] w fun e w' => e = .returned (.bool r) ∧ Below w.heap.size w w' := by
 have hu83 := Try.underlying83; have HB := Aside0.mk (Below.refl w.heap.size w); have H : (if a0_0 = a1_0 then (if a0_1 = a1_1 then (some true) else (some false)) else (some false)) = some r := h; clear h; by_cases c3 : a0_0 = a1_0; rotate_left
 ·rw [if_neg c3] at H; have c3b0 : (a0_0 == a1_0) = false := beq_eq_false_iff_ne.mpr c3; have c3b1 : (a0_0 != a1_0) = true := bne_iff_ne.mpr c3; obtain rfl := Option.some.inj H; go_enter Try.func95, Try.ntmps95; (go_wp2_with (first | ((with_reducible refine gate_dst (N := 2) rfl ?_); refine box_event ?hg (N := 2) ?hd (cs := #[.int .i64 a0_0, .int .i64 a0_1]) (t := 83) ?hr ?_; (case hd => rfl); (case hg => rfl); (case hr => exact zz14); intro gb101 hg w15 hbox hb; have n_ := zA4 (below_step zz1 hb) hbox (zz11 : w.heap.size ≤ gb101) (zz11 : w.heap.size ≤ gb101); clear HB; obtain ⟨HB, BK101, GW101, GE101⟩ := n_; clear hb hbox hg) | ((with_reducible refine gate_dst (N := 3) rfl ?_); refine box_event ?hg (N := 3) ?hd (cs := #[.int .i64 a1_0, .int .i64 a1_1]) (t := 83) ?hr ?_; (case hd => rfl); (case hg => rfl); (case hr => exact zz14); intro gb102 hg w16 hbox hb; have n_ := zA7 (blk_below (g := gb101) (o := .cells #[.int .i64 a0_0, .int .i64 a0_1] 83 (0, 0)) zz2 hb) (below_step zz0 hb) hbox (zz15 : w.heap.size ≤ gb102) (zz15 : w.heap.size ≤ gb102) (zz58 : gb101 ≠ gb102) (zz59 : gb102 ≠ gb101); clear BK101 HB; obtain ⟨BK101, HB, BK102, GW102, GE102, NB101_102, NB102_101⟩ := n_; clear hb hbox hg; have hnb17 := NB101_102.out; have hnc17 := NB102_101.out; have hcz18_0 := zC20 BK101; have hcz18_1 := zC21 BK101; have hfz18_0 := blk_frozen BK101.out 0; have hfz18_1 := blk_frozen BK101.out 1; have hcz19_0 := zC20 BK102; have hcz19_1 := zC21 BK102; have hfz19_0 := blk_frozen BK102.out 0; have hfz19_1 := blk_frozen BK102.out 1))); go_ret; exact ⟨zz6, zz22⟩
 rw [if_pos c3] at H; have c3b0 : (a0_0 == a1_0) = true := beq_iff_eq.mpr c3; have c3b1 : (a0_0 != a1_0) = false := bne_eq_false_iff_eq.mpr c3; clear c3; by_cases c4 : a0_1 = a1_1; rotate_left
 ·rw [if_neg c4] at H; have c4b0 : (a0_1 == a1_1) = false := beq_eq_false_iff_ne.mpr c4; have c4b1 : (a0_1 != a1_1) = true := bne_iff_ne.mpr c4; obtain rfl := Option.some.inj H; go_enter Try.func95, Try.ntmps95; (go_wp2_with (first | ((with_reducible refine gate_dst (N := 2) rfl ?_); refine box_event ?hg (N := 2) ?hd (cs := #[.int .i64 a0_0, .int .i64 a0_1]) (t := 83) ?hr ?_; (case hd => rfl); (case hg => rfl); (case hr => exact zz14); intro gb101 hg w10 hbox hb; have n_ := zA4 (below_step zz1 hb) hbox (zz11 : w.heap.size ≤ gb101) (zz11 : w.heap.size ≤ gb101); clear HB; obtain ⟨HB, BK101, GW101, GE101⟩ := n_; clear hb hbox hg) | ((with_reducible refine gate_dst (N := 3) rfl ?_); refine box_event ?hg (N := 3) ?hd (cs := #[.int .i64 a1_0, .int .i64 a1_1]) (t := 83) ?hr ?_; (case hd => rfl); (case hg => rfl); (case hr => exact zz14); intro gb102 hg w11 hbox hb; have n_ := zA7 (blk_below (g := gb101) (o := .cells #[.int .i64 a0_0, .int .i64 a0_1] 83 (0, 0)) zz2 hb) (below_step zz0 hb) hbox (zz15 : w.heap.size ≤ gb102) (zz15 : w.heap.size ≤ gb102) (zz58 : gb101 ≠ gb102) (zz59 : gb102 ≠ gb101); clear BK101 HB; obtain ⟨BK101, HB, BK102, GW102, GE102, NB101_102, NB102_101⟩ := n_; clear hb hbox hg; have hnb12 := NB101_102.out; have hnc12 := NB102_101.out; have hcz13_0 := zC20 BK101; have hcz13_1 := zC21 BK101; have hfz13_0 := blk_frozen BK101.out 0; have hfz13_1 := blk_frozen BK101.out 1; have hcz14_0 := zC20 BK102; have hcz14_1 := zC21 BK102; have hfz14_0 := blk_frozen BK102.out 0; have hfz14_1 := blk_frozen BK102.out 1))); go_ret; exact ⟨zz6, zz22⟩
 rw [if_pos c4] at H; have c4b0 : (a0_1 == a1_1) = true := beq_iff_eq.mpr c4; have c4b1 : (a0_1 != a1_1) = false := bne_eq_false_iff_eq.mpr c4; clear c4; obtain rfl := Option.some.inj H; go_enter Try.func95, Try.ntmps95; (go_wp2_with (first | ((with_reducible refine gate_dst (N := 2) rfl ?_); refine box_event ?hg (N := 2) ?hd (cs := #[.int .i64 a0_0, .int .i64 a0_1]) (t := 83) ?hr ?_; (case hd => rfl); (case hg => rfl); (case hr => exact zz14); intro gb101 hg w5 hbox hb; have n_ := zA4 (below_step zz1 hb) hbox (zz11 : w.heap.size ≤ gb101) (zz11 : w.heap.size ≤ gb101); clear HB; obtain ⟨HB, BK101, GW101, GE101⟩ := n_; clear hb hbox hg) | ((with_reducible refine gate_dst (N := 3) rfl ?_); refine box_event ?hg (N := 3) ?hd (cs := #[.int .i64 a1_0, .int .i64 a1_1]) (t := 83) ?hr ?_; (case hd => rfl); (case hg => rfl); (case hr => exact zz14); intro gb102 hg w6 hbox hb; have n_ := zA7 (blk_below (g := gb101) (o := .cells #[.int .i64 a0_0, .int .i64 a0_1] 83 (0, 0)) zz2 hb) (below_step zz0 hb) hbox (zz15 : w.heap.size ≤ gb102) (zz15 : w.heap.size ≤ gb102) (zz58 : gb101 ≠ gb102) (zz59 : gb102 ≠ gb101); clear BK101 HB; obtain ⟨BK101, HB, BK102, GW102, GE102, NB101_102, NB102_101⟩ := n_; clear hb hbox hg; have hnb7 := NB101_102.out; have hnc7 := NB102_101.out; have hcz8_0 := zC20 BK101; have hcz8_1 := zC21 BK101; have hfz8_0 := blk_frozen BK101.out 0; have hfz8_1 := blk_frozen BK101.out 1; have hcz9_0 := zC20 BK102; have hcz9_1 := zC21 BK102; have hfz9_0 := blk_frozen BK102.out 0; have hfz9_1 := blk_frozen BK102.out 1))); go_ret; exact ⟨zz6, zz22⟩
def laws_eqEdgeS.l0 : Nat → List (S83) → List (S83) → Int → Option (Bool)
 | 0, _, _, _ => none
 | k + 1, x0, x1, x5 => if x5 < (x0.length : Int) then (if 0 ≤ x5 then (if x5 < (x1.length : Int) then ((laws_eqEdge.f ((rd_T83 x0 x5).f0) ((rd_T83 x0 x5).f1) ((rd_T83 x1 x5).f0) ((rd_T83 x1 x5).f1)).bind fun t103 => (if t103 = true then (laws_eqEdgeS.l0 k x0 x1 (wrap64 (x5 + 1))) else (some false))) else (none)) else (none)) else (some true)
def laws_eqEdgeS.f (k : Nat) (l0 : List (S83)) (l1 : List (S83)) : Option (Bool) := if (l0.length : Int) = (l1.length : Int) then (laws_eqEdgeS.l0 k l0 l1 0) else (some false)
theorem laws_eqEdgeS.mono_l : ∀ k, (∀ y0 y1 y2, LeO (laws_eqEdgeS.l0 k y0 y1 y2) (laws_eqEdgeS.l0 (k + 1) y0 y1 y2))
 | 0 => fun _ _ _ r h => by simp [laws_eqEdgeS.l0] at h
 | k + 1 => by
  have ih0 := laws_eqEdgeS.mono_l k
  ·intro y0 y1 y2
   unfold laws_eqEdgeS.l0
   exact zm0
theorem laws_eqEdgeS.mono : ∀ a0 a1 k, LeO (laws_eqEdgeS.f k a0 a1) (laws_eqEdgeS.f (k + 1) a0 a1) := by
 intro a0 a1 k; have ih0 := laws_eqEdgeS.mono_l k; unfold laws_eqEdgeS.f; exact zm0
def laws_eqEdgeS.T6 : Bool × List (List Nat × List Nat) := (true, [([], []), ([], []), ([0, 1], [0, 1]), ([2], [2]), ([], []), ([], []), ([4, 5], [4, 5]), ([6], [6]), ([3, 7], [3, 7]), ([8], [8])])
def laws_eqEdgeS.B6 : List Nat := [0, 0, 3, 7, 0, 0, 48, 112, 255, 511]
theorem laws_eqEdgeS.tab6 : rtab .any (opsOf Try.f69 6) = laws_eqEdgeS.T6 := by kernel_rfl
theorem laws_eqEdgeS.bits6 : waitsOk laws_eqEdgeS.T6.2 laws_eqEdgeS.B6 = true := by kernel_rfl
set_option maxHeartbeats 8000000 in
set_option maxRecDepth 100000 in
theorem laws_eqEdgeS.calls (k : Nat) (A0 : Option Addr) (c0 : Nat) (l0 : List (S83)) (A1 : Option Addr) (c1 : Nat) (l1 : List (S83)) (r : Bool) (w : World) (hr0 : Kd.C k83 w A0 l0.length l0) (hc0 : l0.length ≤ c0) (hr1 : Kd.C k83 w A1 l1.length l1) (hc1 : l1.length ≤ c1) (h : laws_eqEdgeS.f k l0 l1 = some r) :
  Calls Try.prog 69 #[.slice A0 l0.length c0, .slice A1 l1.length c1] w fun e w' => e = .returned (.bool r) ∧ Below w.heap.size w w' := by
 have hu83 := Try.underlying83; have HR0 := Aside0.mk hr0; have HC0 := Aside0.mk hc0; clear hr0 hc0; have HR1 := Aside0.mk hr1; have HC1 := Aside0.mk hc1; clear hr1 hc1; have HB := Aside0.mk (Below.refl w.heap.size w); have H : (if (l0.length : Int) = (l1.length : Int) then (laws_eqEdgeS.l0 k l0 l1 0) else (some false)) = some r := h; clear h; by_cases c3 : (l0.length : Int) = (l1.length : Int); rotate_left
 ·rw [if_neg c3] at H; have c3b0 : ((l0.length : Int) == (l1.length : Int)) = false := beq_eq_false_iff_ne.mpr c3; have c3b1 : ((l0.length : Int) != (l1.length : Int)) = true := bne_iff_ne.mpr c3; (have c3b2 : (l0.length == l1.length) = false := by first | simpa using c3 | (simp at c3 ⊢; omega)); obtain rfl := Option.some.inj H; go_enter Try.func69, Try.ntmps69; go_wp2; go_ret; exact ⟨zz6, zz1⟩
 rw [if_pos c3] at H; have c3b0 : ((l0.length : Int) == (l1.length : Int)) = true := beq_iff_eq.mpr c3; have c3b1 : ((l0.length : Int) != (l1.length : Int)) = false := bne_eq_false_iff_eq.mpr c3; (have c3b2 : (l0.length == l1.length) = true := by first | simpa using c3 | (simp at c3 ⊢; omega)); clear c3; have H' := Aside0.mk H; clear H; go_enter Try.func69, Try.ntmps69; go_wp2; (go_loopg [5] k (fun kq v5 w' => ∃ (x5_1 : Int), v5 = .int .i64 x5_1 ∧ Aside0 (laws_eqEdgeS.l0 kq l0 l1 x5_1 = some r) ∧ Aside0 (kq ≤ k) ∧ Aside0 (Below w.heap.size w w'))); case atStart => exact ⟨(0), zz8, H', ⟨Nat.le_refl _⟩, ⟨zz1⟩⟩
 case round =>
  clear H'; (try clear c1); (try clear p2); (try clear c3); (try clear c3b0); (try clear c3b1); (try clear c3b2); obtain ⟨x5_1, rfl, HA, HK1, HB⟩ := hrel
  cases gk with
  | zero => exact absurd HA.out (by simp [laws_eqEdgeS.l0])
  | succ k1 =>
   have H := HA.out; clear HA; simp only [laws_eqEdgeS.l0] at H; by_cases c4 : x5_1 < (l0.length : Int); rotate_left
   ·rw [if_neg c4] at H; have c4b0 := decide_eq_false c4; clear c4; obtain rfl := Option.some.inj H; go_wp2; go_ret; exact ⟨zz6, zz1⟩
   rw [if_pos c4] at H; have c4b0 := decide_eq_true c4; clear c4; by_cases c5 : 0 ≤ x5_1; rotate_left
   ·rw [if_neg c5] at H; exact absurd H (by simp)
   rw [if_pos c5] at H; have c5b0 := decide_eq_true c5; clear c5; by_cases c6 : x5_1 < (l1.length : Int); rotate_left
   ·rw [if_neg c6] at H; exact absurd H (by simp)
   rw [if_pos c6] at H; have c6b0 := decide_eq_true c6; clear c6; replace H := Option.bind_eq_some_iff.mp H; obtain ⟨t103, A70, H⟩ := H; (try dsimp only at H); have A7 := Aside0.mk A70; clear A70; by_cases c8 : t103 = true; rotate_left
   ·replace c8 := Bool.eq_false_iff.mpr c8; subst c8; rw [if_neg (show ¬ (false = true) by decide)] at H; obtain rfl := Option.some.inj H; (try go_wp2); replace HB := Aside0.mk (below_drew1 HB.out); have p101 : 0 ≤ (x5_1 : Int) := of_decide_eq_true zz4; have q101 : x5_1 < (l0.length : Int) := of_decide_eq_true zz4; obtain ⟨ad101, e101, hx101_0, hx101_1⟩ := at_T83 HR0.out x5_1 p101 q101; have hw101_1 := hx101_1; have hw101_0 := hx101_0; cases e101; replace hx101_0 := (HB.out.cell (World.block_lt_of_cell? w _ hx101_0)).trans hx101_0; replace hx101_1 := (HB.out.cell (World.block_lt_of_cell? w _ hx101_1)).trans hx101_1; replace p101 := eq_true p101; replace q101 := eq_true q101; have p102 : 0 ≤ (x5_1 : Int) := of_decide_eq_true zz4; have q102 : x5_1 < (l1.length : Int) := of_decide_eq_true zz4; obtain ⟨ad102, e102, hx102_0, hx102_1⟩ := at_T83 HR1.out x5_1 p102 q102; have hw102_1 := hx102_1; have hw102_0 := hx102_0; cases e102; replace hx102_0 := (HB.out.cell (World.block_lt_of_cell? w _ hx102_0)).trans hx102_0; replace hx102_1 := (HB.out.cell (World.block_lt_of_cell? w _ hx102_1)).trans hx102_1; replace p102 := eq_true p102; replace q102 := eq_true q102; refine start_ (n := 10) (S := fun w' => w'.cell? (ad101.add ((x5_1).toNat * 2)) = some (.int .i64 ((rd_T83 l0 x5_1).f0)) ∧ w'.cell? ⟨(ad101.add ((x5_1).toNat * 2)).block, (ad101.add ((x5_1).toNat * 2)).off + 1, none⟩ = some (.int .i64 ((rd_T83 l0 x5_1).f1)) ∧ w'.cell? (ad102.add ((x5_1).toNat * 2)) = some (.int .i64 ((rd_T83 l1 x5_1).f0)) ∧ w'.cell? ⟨(ad102.add ((x5_1).toNat * 2)).block, (ad102.add ((x5_1).toNat * 2)).off + 1, none⟩ = some (.int .i64 ((rd_T83 l1 x5_1).f1))) (ds := []) (zM 10 0) (by kernel_rfl) rfl rfl ⟨((HB.out.cell (World.block_lt_of_cell? w _ hw101_0)).trans hw101_0), ((HB.out.cell (World.block_lt_of_cell? w _ hw101_1)).trans hw101_1), ((HB.out.cell (World.block_lt_of_cell? w _ hw102_0)).trans hw102_0), ((HB.out.cell (World.block_lt_of_cell? w _ hw102_1)).trans hw102_1)⟩ (fun hHeld => ?_); refine with_tabW laws_eqEdgeS.tab6 laws_eqEdgeS.bits6 (fun HT_ HW_ => ?_); generalize wr.drew = w11 at HB hx101_0 hx101_1 hx102_0 hx102_1 hHeld ⊢; refine zP 0 17 ?_ (zM 10 1) rfl rfl HT_.out ?_ ?_ ?_ ?_; rotate_left; exact fun _ => zzT; rotate_left; exact zzS
    refine zP 1 18 ?_ (zM 10 3) rfl rfl HT_.out ?_ ?_ ?_ ?_; rotate_left; exact fun _ => zzT; rotate_left; exact zzS
    refine zP 2 19 ?_ (zM 10 7) rfl rfl HT_.out ?_ ?_ ?_ ?_; rotate_left; exact fun _ => zzT; rotate_left; exact zzS
    refine zP 4 21 ?_ (zM 10 23) rfl rfl HT_.out ?_ ?_ ?_ ?_; rotate_left; exact fun _ => zzT; rotate_left; exact zzS
    refine zP 5 22 ?_ (zM 10 55) rfl rfl HT_.out ?_ ?_ ?_ ?_; rotate_left; exact fun _ => zzT; rotate_left; exact zzS
    refine zP 6 23 ?_ (zM 10 119) rfl rfl HT_.out ?_ ?_ ?_ ?_; rotate_left; exact fun _ => zzT; rotate_left; exact zzS
    refine take_ (i := 3) (N := some 20) (v := ?_) (a' := ?_) (zM 10 127) rfl rfl (take_ofW HT_.out HW_.out (by kernel_rfl)) (fun _ _ _ h => h) (Or.inl ⟨by rfl, ?_⟩) hHeld ?_ ?_; rotate_left
    ·rintro w' ⟨s0, s1, s2, s3⟩; exact zzT
    rotate_left
    ·exact zzS
    refine take_ (i := 7) (N := some 24) (v := ?_) (a' := ?_) (zM 10 255) rfl rfl (take_ofW HT_.out HW_.out (by kernel_rfl)) (fun _ _ _ h => h) (Or.inl ⟨by rfl, ?_⟩) hHeld ?_ ?_; rotate_left
    ·rintro w' ⟨s0, s1, s2, s3⟩; exact zzT
    rotate_left
    ·exact zzS
    refine one_ (i := 8) (N := some 25) (zM 10 511) rfl rfl (one_of HT_.out (by kernel_rfl)) (by decide) (fun K hK => ?_); refine goes_ Try.func95 (by kernel_rfl) rfl #[.agg #[.int .i64 ((rd_T83 l0 x5_1).f0), .int .i64 ((rd_T83 l0 x5_1).f1)], .agg #[.int .i64 ((rd_T83 l1 x5_1).f0), .int .i64 ((rd_T83 l1 x5_1).f1)]] (by rfl) rfl rfl zz3 ?_; (with_reducible refine (laws_eqEdge.calls ((rd_T83 l0 x5_1).f0) ((rd_T83 l0 x5_1).f1) ((rd_T83 l1 x5_1).f0) ((rd_T83 l1 x5_1).f1) false _ A7.out).mono ?_); rintro e w12 ⟨rfl, hb⟩; refine ⟨_, rfl, ?_⟩; replace HB := Aside0.mk (below_step zz1 hb); clear hb; refine hK.out _ _ ⟨((HB.out.cell (World.block_lt_of_cell? w _ hw101_0)).trans hw101_0), ((HB.out.cell (World.block_lt_of_cell? w _ hw101_1)).trans hw101_1), ((HB.out.cell (World.block_lt_of_cell? w _ hw102_0)).trans hw102_0), ((HB.out.cell (World.block_lt_of_cell? w _ hw102_1)).trans hw102_1)⟩ (fun hHeld => ?_); clear hK K; refine norm_ (a' := ?_) ?_ ?_; rotate_left
    ·show Act.put _ (some 25) _ = _; exact zzS
    refine zP 9 26 ?_ (zM 10 1023) rfl rfl HT_.out ?_ ?_ ?_ ?_; rotate_left; exact fun _ => zzT; rotate_left; exact zzS
    refine done_ (done_of HT_.out (by kernel_rfl)) ?_; (try go_wp2); go_ret; exact ⟨zz6, zz1⟩
   subst c8; rw [if_pos rfl] at H; have H' := Aside0.mk H; clear H; (try go_wp2); replace HB := Aside0.mk (below_drew1 HB.out); have p101 : 0 ≤ (x5_1 : Int) := of_decide_eq_true zz4; have q101 : x5_1 < (l0.length : Int) := of_decide_eq_true zz4; obtain ⟨ad101, e101, hx101_0, hx101_1⟩ := at_T83 HR0.out x5_1 p101 q101; have hw101_1 := hx101_1; have hw101_0 := hx101_0; cases e101; replace hx101_0 := (HB.out.cell (World.block_lt_of_cell? w _ hx101_0)).trans hx101_0; replace hx101_1 := (HB.out.cell (World.block_lt_of_cell? w _ hx101_1)).trans hx101_1; replace p101 := eq_true p101; replace q101 := eq_true q101; have p102 : 0 ≤ (x5_1 : Int) := of_decide_eq_true zz4; have q102 : x5_1 < (l1.length : Int) := of_decide_eq_true zz4; obtain ⟨ad102, e102, hx102_0, hx102_1⟩ := at_T83 HR1.out x5_1 p102 q102; have hw102_1 := hx102_1; have hw102_0 := hx102_0; cases e102; replace hx102_0 := (HB.out.cell (World.block_lt_of_cell? w _ hx102_0)).trans hx102_0; replace hx102_1 := (HB.out.cell (World.block_lt_of_cell? w _ hx102_1)).trans hx102_1; replace p102 := eq_true p102; replace q102 := eq_true q102; refine start_ (n := 10) (S := fun w' => w'.cell? (ad101.add ((x5_1).toNat * 2)) = some (.int .i64 ((rd_T83 l0 x5_1).f0)) ∧ w'.cell? ⟨(ad101.add ((x5_1).toNat * 2)).block, (ad101.add ((x5_1).toNat * 2)).off + 1, none⟩ = some (.int .i64 ((rd_T83 l0 x5_1).f1)) ∧ w'.cell? (ad102.add ((x5_1).toNat * 2)) = some (.int .i64 ((rd_T83 l1 x5_1).f0)) ∧ w'.cell? ⟨(ad102.add ((x5_1).toNat * 2)).block, (ad102.add ((x5_1).toNat * 2)).off + 1, none⟩ = some (.int .i64 ((rd_T83 l1 x5_1).f1))) (ds := []) (zM 10 0) (by kernel_rfl) rfl rfl ⟨((HB.out.cell (World.block_lt_of_cell? w _ hw101_0)).trans hw101_0), ((HB.out.cell (World.block_lt_of_cell? w _ hw101_1)).trans hw101_1), ((HB.out.cell (World.block_lt_of_cell? w _ hw102_0)).trans hw102_0), ((HB.out.cell (World.block_lt_of_cell? w _ hw102_1)).trans hw102_1)⟩ (fun hHeld => ?_); refine with_tabW laws_eqEdgeS.tab6 laws_eqEdgeS.bits6 (fun HT_ HW_ => ?_); generalize wr.drew = w9 at HB hx101_0 hx101_1 hx102_0 hx102_1 hHeld ⊢; refine zP 0 17 ?_ (zM 10 1) rfl rfl HT_.out ?_ ?_ ?_ ?_; rotate_left; exact fun _ => zzT; rotate_left; exact zzS
   refine zP 1 18 ?_ (zM 10 3) rfl rfl HT_.out ?_ ?_ ?_ ?_; rotate_left; exact fun _ => zzT; rotate_left; exact zzS
   refine zP 2 19 ?_ (zM 10 7) rfl rfl HT_.out ?_ ?_ ?_ ?_; rotate_left; exact fun _ => zzT; rotate_left; exact zzS
   refine zP 4 21 ?_ (zM 10 23) rfl rfl HT_.out ?_ ?_ ?_ ?_; rotate_left; exact fun _ => zzT; rotate_left; exact zzS
   refine zP 5 22 ?_ (zM 10 55) rfl rfl HT_.out ?_ ?_ ?_ ?_; rotate_left; exact fun _ => zzT; rotate_left; exact zzS
   refine zP 6 23 ?_ (zM 10 119) rfl rfl HT_.out ?_ ?_ ?_ ?_; rotate_left; exact fun _ => zzT; rotate_left; exact zzS
   refine take_ (i := 3) (N := some 20) (v := ?_) (a' := ?_) (zM 10 127) rfl rfl (take_ofW HT_.out HW_.out (by kernel_rfl)) (fun _ _ _ h => h) (Or.inl ⟨by rfl, ?_⟩) hHeld ?_ ?_; rotate_left
   ·rintro w' ⟨s0, s1, s2, s3⟩; exact zzT
   rotate_left
   ·exact zzS
   refine take_ (i := 7) (N := some 24) (v := ?_) (a' := ?_) (zM 10 255) rfl rfl (take_ofW HT_.out HW_.out (by kernel_rfl)) (fun _ _ _ h => h) (Or.inl ⟨by rfl, ?_⟩) hHeld ?_ ?_; rotate_left
   ·rintro w' ⟨s0, s1, s2, s3⟩; exact zzT
   rotate_left
   ·exact zzS
   refine one_ (i := 8) (N := some 25) (zM 10 511) rfl rfl (one_of HT_.out (by kernel_rfl)) (by decide) (fun K hK => ?_); refine goes_ Try.func95 (by kernel_rfl) rfl #[.agg #[.int .i64 ((rd_T83 l0 x5_1).f0), .int .i64 ((rd_T83 l0 x5_1).f1)], .agg #[.int .i64 ((rd_T83 l1 x5_1).f0), .int .i64 ((rd_T83 l1 x5_1).f1)]] (by rfl) rfl rfl zz3 ?_; (with_reducible refine (laws_eqEdge.calls ((rd_T83 l0 x5_1).f0) ((rd_T83 l0 x5_1).f1) ((rd_T83 l1 x5_1).f0) ((rd_T83 l1 x5_1).f1) true _ A7.out).mono ?_); rintro e w10 ⟨rfl, hb⟩; refine ⟨_, rfl, ?_⟩; replace HB := Aside0.mk (below_step zz1 hb); clear hb; refine hK.out _ _ ⟨((HB.out.cell (World.block_lt_of_cell? w _ hw101_0)).trans hw101_0), ((HB.out.cell (World.block_lt_of_cell? w _ hw101_1)).trans hw101_1), ((HB.out.cell (World.block_lt_of_cell? w _ hw102_0)).trans hw102_0), ((HB.out.cell (World.block_lt_of_cell? w _ hw102_1)).trans hw102_1)⟩ (fun hHeld => ?_); clear hK K; refine norm_ (a' := ?_) ?_ ?_; rotate_left
   ·show Act.put _ (some 25) _ = _; exact zzS
   refine zP 9 26 ?_ (zM 10 1023) rfl rfl HT_.out ?_ ?_ ?_ ?_; rotate_left; exact fun _ => zzT; rotate_left; exact zzS
   refine done_ (done_of HT_.out (by kernel_rfl)) ?_; (try go_wp2); go_roundg k1; (case measure => have := HK1.out; omega); case rel => exact ⟨(wrap64 (x5_1 + 1)), zz8, H', ⟨zz41⟩, ⟨zz1⟩⟩
def laws_eqGraph.f (k : Nat) (a0_0 : Int) (l0_1 : List (S83)) (a1_0 : Int) (l1_1 : List (S83)) : Option (Bool) := if a0_0 = a1_0 then ((laws_eqEdgeS.f k l0_1 l1_1).bind fun t103 => (if t103 = true then (some true) else (some false))) else (some false)
theorem laws_eqGraph.mono : ∀ a0 a1 a2 a3 k, LeO (laws_eqGraph.f k a0 a1 a2 a3) (laws_eqGraph.f (k + 1) a0 a1 a2 a3) := by
 intro a0 a1 a2 a3 k; unfold laws_eqGraph.f; repeat' first | (with_reducible apply laws_eqEdgeS.mono) | (with_reducible exact LeO.refl _) | (with_reducible exact LeO.none _) | (with_reducible refine LeO.ite ?_ ?_) | (with_reducible refine LeO.bind ?_ (fun _ => ?_)) | apply laws_eqEdgeS.mono | exact LeO.none _ | refine LeO.ite ?_ ?_ | refine LeO.bind ?_ (fun _ => ?_)
set_option maxHeartbeats 8000000 in
set_option maxRecDepth 100000 in
theorem laws_eqGraph.calls (k : Nat) (a0_0 : Int) (A0_1 : Option Addr) (c0_1 : Nat) (l0_1 : List (S83)) (a1_0 : Int) (A1_1 : Option Addr) (c1_1 : Nat) (l1_1 : List (S83)) (r : Bool) (w : World) (hr0_1 : Kd.C k83 w A0_1 l0_1.length l0_1) (hc0_1 : l0_1.length ≤ c0_1) (hr1_1 : Kd.C k83 w A1_1 l1_1.length l1_1) (hc1_1 : l1_1.length ≤ c1_1) (h : laws_eqGraph.f k a0_0 l0_1 a1_0 l1_1 = some r) :
  Calls Try.prog 28 #[.agg #[.int .i64 a0_0, .slice A0_1 l0_1.length c0_1], .agg #[.int .i64 a1_0, .slice A1_1 l1_1.length c1_1]] w fun e w' => e = .returned (.bool r) ∧ Below w.heap.size w w' := by
 have hu25 := Try.underlying25; have HR0_1 := Aside0.mk hr0_1; have HC0_1 := Aside0.mk hc0_1; clear hr0_1 hc0_1; have HR1_1 := Aside0.mk hr1_1; have HC1_1 := Aside0.mk hc1_1; clear hr1_1 hc1_1; have HB := Aside0.mk (Below.refl w.heap.size w); have H : (if a0_0 = a1_0 then ((laws_eqEdgeS.f k l0_1 l1_1).bind fun t103 => (if t103 = true then (some true) else (some false))) else (some false)) = some r := h; clear h; by_cases c3 : a0_0 = a1_0; rotate_left
 ·rw [if_neg c3] at H; have c3b0 : (a0_0 == a1_0) = false := beq_eq_false_iff_ne.mpr c3; have c3b1 : (a0_0 != a1_0) = true := bne_iff_ne.mpr c3; obtain rfl := Option.some.inj H; go_enter Try.func28, Try.ntmps28; (go_wp2_with (first | ((with_reducible refine gate_dst (N := 2) rfl ?_); refine box_event ?hg (N := 2) ?hd (cs := #[.int .i64 a0_0, .slice A0_1 l0_1.length c0_1]) (t := 25) ?hr ?_; (case hd => rfl); (case hg => rfl); (case hr => exact zz14); intro gb101 hg w18 hbox hb; have n_ := zA4 (below_step zz1 hb) hbox (zz11 : w.heap.size ≤ gb101) (zz11 : w.heap.size ≤ gb101); clear HB; obtain ⟨HB, BK101, GW101, GE101⟩ := n_; clear hb hbox hg) | ((with_reducible refine gate_dst (N := 3) rfl ?_); refine box_event ?hg (N := 3) ?hd (cs := #[.int .i64 a1_0, .slice A1_1 l1_1.length c1_1]) (t := 25) ?hr ?_; (case hd => rfl); (case hg => rfl); (case hr => exact zz14); intro gb102 hg w19 hbox hb; have n_ := zA7 (blk_below (g := gb101) (o := .cells #[.int .i64 a0_0, .slice A0_1 l0_1.length c0_1] 25 (0, 0)) zz2 hb) (below_step zz0 hb) hbox (zz15 : w.heap.size ≤ gb102) (zz15 : w.heap.size ≤ gb102) (by rw [hg]; exact Nat.ne_of_lt (blk_lt (g := gb101) (o := .cells #[.int .i64 a0_0, .slice A0_1 l0_1.length c0_1] 25 (0, 0)) zz2) : gb101 ≠ gb102) (by rw [hg]; exact Nat.ne_of_gt (blk_lt (g := gb101) (o := .cells #[.int .i64 a0_0, .slice A0_1 l0_1.length c0_1] 25 (0, 0)) zz2) : gb102 ≠ gb101); clear BK101 HB; obtain ⟨BK101, HB, BK102, GW102, GE102, NB101_102, NB102_101⟩ := n_; clear hb hbox hg; have hnb20 := NB101_102.out; have hnc20 := NB102_101.out; have hcz21_0 := zC20 BK101; have hcz21_1 := zC21 BK101; have hfz21_0 := blk_frozen BK101.out 0; have hfz21_1 := blk_frozen BK101.out 1; have hcz22_0 := zC20 BK102; have hcz22_1 := zC21 BK102; have hfz22_0 := blk_frozen BK102.out 0; have hfz22_1 := blk_frozen BK102.out 1))); go_ret; exact ⟨zz6, zz22⟩
 rw [if_pos c3] at H; have c3b0 : (a0_0 == a1_0) = true := beq_iff_eq.mpr c3; have c3b1 : (a0_0 != a1_0) = false := bne_eq_false_iff_eq.mpr c3; clear c3; replace H := Option.bind_eq_some_iff.mp H; obtain ⟨t103, A40, H⟩ := H; (try dsimp only at H); have A4 := Aside0.mk A40; clear A40; by_cases c5 : t103 = true
 ·subst c5; rw [if_pos rfl] at H; obtain rfl := Option.some.inj H; go_enter Try.func28, Try.ntmps28; (go_wp2_with (first | ((with_reducible refine gate_dst (N := 2) rfl ?_); refine box_event ?hg (N := 2) ?hd (cs := #[.int .i64 a0_0, .slice A0_1 l0_1.length c0_1]) (t := 25) ?hr ?_; (case hd => rfl); (case hg => rfl); (case hr => exact zz14); intro gb101 hg w6 hbox hb; have n_ := zA4 (below_step zz1 hb) hbox (zz11 : w.heap.size ≤ gb101) (zz11 : w.heap.size ≤ gb101); clear HB; obtain ⟨HB, BK101, GW101, GE101⟩ := n_; clear hb hbox hg) | ((with_reducible refine gate_dst (N := 3) rfl ?_); refine box_event ?hg (N := 3) ?hd (cs := #[.int .i64 a1_0, .slice A1_1 l1_1.length c1_1]) (t := 25) ?hr ?_; (case hd => rfl); (case hg => rfl); (case hr => exact zz14); intro gb102 hg w7 hbox hb; have n_ := zA7 (blk_below (g := gb101) (o := .cells #[.int .i64 a0_0, .slice A0_1 l0_1.length c0_1] 25 (0, 0)) zz2 hb) (below_step zz0 hb) hbox (zz15 : w.heap.size ≤ gb102) (zz15 : w.heap.size ≤ gb102) (by rw [hg]; exact Nat.ne_of_lt (blk_lt (g := gb101) (o := .cells #[.int .i64 a0_0, .slice A0_1 l0_1.length c0_1] 25 (0, 0)) zz2) : gb101 ≠ gb102) (by rw [hg]; exact Nat.ne_of_gt (blk_lt (g := gb101) (o := .cells #[.int .i64 a0_0, .slice A0_1 l0_1.length c0_1] 25 (0, 0)) zz2) : gb102 ≠ gb101); clear BK101 HB; obtain ⟨BK101, HB, BK102, GW102, GE102, NB101_102, NB102_101⟩ := n_; clear hb hbox hg; have hnb8 := NB101_102.out; have hnc8 := NB102_101.out; have hcz9_0 := zC20 BK101; have hcz9_1 := zC21 BK101; have hfz9_0 := blk_frozen BK101.out 0; have hfz9_1 := blk_frozen BK101.out 1; have hcz10_0 := zC20 BK102; have hcz10_1 := zC21 BK102; have hfz10_0 := blk_frozen BK102.out 0; have hfz10_1 := blk_frozen BK102.out 1) | ((with_reducible refine gate_callee (f := 69) rfl ?_); refine goesL_ (some 14) rfl rfl Try.func69 (by kernel_rfl) rfl #[.slice A0_1 l0_1.length c0_1, .slice A1_1 l1_1.length c1_1] rfl zz3 ?_; (with_reducible refine (laws_eqEdgeS.calls k _ _ l0_1 _ _ l1_1 true _ ?side1 ?side2 ?side3 ?side4 A4.out).mono ?_); (case side1 => exact zz5); (case side2 => exact HC0_1.out); (case side3 => repeat (first | exact (Kd.C_below HR1_1.out HB.out) | (with_reducible refine Kd.C_alloc ?_ _) | (with_reducible refine Kd.C_drewN ?_ _) | (with_reducible refine Kd.C_drew ?_))); (case side4 => exact HC1_1.out); rintro e w11 ⟨rfl, hb⟩; refine ⟨_, rfl, ?_⟩; have n_ := zA3 (blk_below (g := gb101) (o := .cells #[.int .i64 a0_0, .slice A0_1 l0_1.length c0_1] 25 (0, 0)) zz2 hb) (blk_below (g := gb102) (o := .cells #[.int .i64 a1_0, .slice A1_1 l1_1.length c1_1] 25 (0, 0)) zz32 hb) (below_step zz22 hb); clear BK101 BK102 HB; obtain ⟨BK101, BK102, HB⟩ := n_; clear hb))); go_ret; exact ⟨zz6, zz22⟩
 replace c5 := Bool.eq_false_iff.mpr c5; subst c5; rw [if_neg (show ¬ (false = true) by decide)] at H; obtain rfl := Option.some.inj H; go_enter Try.func28, Try.ntmps28; (go_wp2_with (first | ((with_reducible refine gate_dst (N := 2) rfl ?_); refine box_event ?hg (N := 2) ?hd (cs := #[.int .i64 a0_0, .slice A0_1 l0_1.length c0_1]) (t := 25) ?hr ?_; (case hd => rfl); (case hg => rfl); (case hr => exact zz14); intro gb101 hg w12 hbox hb; have n_ := zA4 (below_step zz1 hb) hbox (zz11 : w.heap.size ≤ gb101) (zz11 : w.heap.size ≤ gb101); clear HB; obtain ⟨HB, BK101, GW101, GE101⟩ := n_; clear hb hbox hg) | ((with_reducible refine gate_dst (N := 3) rfl ?_); refine box_event ?hg (N := 3) ?hd (cs := #[.int .i64 a1_0, .slice A1_1 l1_1.length c1_1]) (t := 25) ?hr ?_; (case hd => rfl); (case hg => rfl); (case hr => exact zz14); intro gb102 hg w13 hbox hb; have n_ := zA7 (blk_below (g := gb101) (o := .cells #[.int .i64 a0_0, .slice A0_1 l0_1.length c0_1] 25 (0, 0)) zz2 hb) (below_step zz0 hb) hbox (zz15 : w.heap.size ≤ gb102) (zz15 : w.heap.size ≤ gb102) (by rw [hg]; exact Nat.ne_of_lt (blk_lt (g := gb101) (o := .cells #[.int .i64 a0_0, .slice A0_1 l0_1.length c0_1] 25 (0, 0)) zz2) : gb101 ≠ gb102) (by rw [hg]; exact Nat.ne_of_gt (blk_lt (g := gb101) (o := .cells #[.int .i64 a0_0, .slice A0_1 l0_1.length c0_1] 25 (0, 0)) zz2) : gb102 ≠ gb101); clear BK101 HB; obtain ⟨BK101, HB, BK102, GW102, GE102, NB101_102, NB102_101⟩ := n_; clear hb hbox hg; have hnb14 := NB101_102.out; have hnc14 := NB102_101.out; have hcz15_0 := zC20 BK101; have hcz15_1 := zC21 BK101; have hfz15_0 := blk_frozen BK101.out 0; have hfz15_1 := blk_frozen BK101.out 1; have hcz16_0 := zC20 BK102; have hcz16_1 := zC21 BK102; have hfz16_0 := blk_frozen BK102.out 0; have hfz16_1 := blk_frozen BK102.out 1) | ((with_reducible refine gate_callee (f := 69) rfl ?_); refine goesL_ (some 14) rfl rfl Try.func69 (by kernel_rfl) rfl #[.slice A0_1 l0_1.length c0_1, .slice A1_1 l1_1.length c1_1] rfl zz3 ?_; (with_reducible refine (laws_eqEdgeS.calls k _ _ l0_1 _ _ l1_1 false _ ?side1 ?side2 ?side3 ?side4 A4.out).mono ?_); (case side1 => exact zz5); (case side2 => exact HC0_1.out); (case side3 => repeat (first | exact (Kd.C_below HR1_1.out HB.out) | (with_reducible refine Kd.C_alloc ?_ _) | (with_reducible refine Kd.C_drewN ?_ _) | (with_reducible refine Kd.C_drew ?_))); (case side4 => exact HC1_1.out); rintro e w17 ⟨rfl, hb⟩; refine ⟨_, rfl, ?_⟩; have n_ := zA3 (blk_below (g := gb101) (o := .cells #[.int .i64 a0_0, .slice A0_1 l0_1.length c0_1] 25 (0, 0)) zz2 hb) (blk_below (g := gb102) (o := .cells #[.int .i64 a1_0, .slice A1_1 l1_1.length c1_1] 25 (0, 0)) zz32 hb) (below_step zz22 hb); clear BK101 BK102 HB; obtain ⟨BK101, BK102, HB⟩ := n_; clear hb))); go_ret; exact ⟨zz6, zz22⟩
def laws_markEdgeS.l0 : Nat → List (S83) → Int → Int → Option (Int × (List (S83)))
 | 0, _, _, _ => none
 | k + 1, x0, x1, x5 => if x5 < (x0.length : Int) then (if 0 ≤ x5 then ((some (x0.set (x5 : Int).toNat (⟨x1, (rd_T83 x0 x5).f1⟩ : S83) : List (S83))).bind fun y101 => (laws_markEdgeS.l0 k (y101.set (x5 : Int).toNat (⟨(rd_T83 y101 x5).f0, wrap64 (x1 + 1)⟩ : S83)) (wrap64 ((wrap64 (x1 + 1)) + 1)) (wrap64 (x5 + 1)))) else (none)) else (some (x1, x0))
def laws_markEdgeS.f (k : Nat) (l0 : List (S83)) (a1 : Int) : Option (Int × (List (S83))) := laws_markEdgeS.l0 k l0 a1 0
theorem laws_markEdgeS.mono_l : ∀ k, (∀ y0 y1 y2, LeO (laws_markEdgeS.l0 k y0 y1 y2) (laws_markEdgeS.l0 (k + 1) y0 y1 y2))
 | 0 => fun _ _ _ r h => by simp [laws_markEdgeS.l0] at h
 | k + 1 => by
  have ih0 := laws_markEdgeS.mono_l k
  ·intro y0 y1 y2
   unfold laws_markEdgeS.l0
   exact zm0
theorem laws_markEdgeS.mono : ∀ a0 a1 k, LeO (laws_markEdgeS.f k a0 a1) (laws_markEdgeS.f (k + 1) a0 a1) := by
 intro a0 a1 k; have ih0 := laws_markEdgeS.mono_l k; unfold laws_markEdgeS.f; exact zm0
set_option maxHeartbeats 8000000 in
set_option maxRecDepth 100000 in
theorem laws_markEdgeS.calls (k : Nat) (P0_ : Nat → Prop) (u9000_ : Value) (l0 : List (S83)) (a1 : Int) (r1 : Int) (r2 : List (S83)) (w0 w : World) (hB : Below w0.heap.size w0 w) (ho0 : Kd.R k83 83 w w0.heap.size P0_ u9000_ l0) (h : laws_markEdgeS.f k l0 a1 = some (r1, r2)) :
  Calls Try.prog 70 #[u9000_, .int .i64 a1] w fun e w' => e = .returned (.int .i64 r1) ∧ Kd.R k83 83 w' w0.heap.size (fun k_ => (P0_ k_ ∨ w.heap.size ≤ k_)) u9000_ r2 ∧ Below w0.heap.size w0 w' ∧ Kept w w' (fun k_ => P0_ k_) := by
 have HO0 := Aside0.mk (show Kd.R k83 83 w w0.heap.size (fun k_ => (P0_ k_ ∨ w.heap.size ≤ k_)) u9000_ l0 from Kd.R_mono ho0 (fun k_ hk => (.inl hk))); have HK := Aside0.mk (Kept.refl w (fun k_ => P0_ k_)); have HW0 := Aside0.mk hB.size; have HB := Aside0.mk hB; clear hB; have H : (laws_markEdgeS.l0 k l0 a1 0) = some (r1, r2) := h; clear h; have H' := Aside0.mk H; clear H; go_enter Try.func70, Try.ntmps70; go_wp2; (go_loopg [1, 5] k (fun kq v1 v5 w' => ∃ (x0_1 : List (S83)) (x1_1 : Int) (x5_1 : Int), v1 = .int .i64 x1_1 ∧ v5 = .int .i64 x5_1 ∧ Aside0 (laws_markEdgeS.l0 kq x0_1 x1_1 x5_1 = some (r1, r2)) ∧ Aside0 (kq ≤ k) ∧ Aside0 (Kd.R k83 83 w' w0.heap.size (fun k_ => (P0_ k_ ∨ w.heap.size ≤ k_)) u9000_ x0_1) ∧ Aside0 (Kept w w' (fun k_ => P0_ k_)) ∧ Aside0 (Below w0.heap.size w0 w'))); case atStart => exact ⟨(l0), (a1), (0), zz8, zz8, H', ⟨Nat.le_refl _⟩, ⟨by (with_reducible repeat (first | apply Kd.R_alloc | apply Kd.R_drewN | apply Kd.R_drew)); exact HO0.out⟩, ⟨zz40⟩, ⟨zz1⟩⟩
 case round =>
  clear H'; (try clear p2); obtain ⟨x0_1, x1_1, x5_1, rfl, rfl, HA, HK1, HO_0, HK, HB⟩ := hrel
  cases gk with
  | zero => exact absurd HA.out (by simp [laws_markEdgeS.l0])
  | succ k1 =>
   have H := HA.out; clear HA; simp only [laws_markEdgeS.l0] at H; by_cases c3 : x5_1 < (x0_1.length : Int); rotate_left
   ·rw [if_neg c3] at H; have c3b0 := decide_eq_false c3; clear c3; simp only [Option.some.injEq, Prod.mk.injEq] at H; obtain ⟨rfl, rfl⟩ := H; obtain ⟨Ao12, co12, eo12⟩ := Kd.R_slice HO_0.out; subst eo12; go_wp2; go_ret; exact ⟨zz6, by (with_reducible repeat (first | apply Kd.R_alloc | apply Kd.R_drewN | apply Kd.R_drew)); exact HO_0.out, zz1, zz40⟩
   rw [if_pos c3] at H; have c3b0 := decide_eq_true c3; clear c3; by_cases c4 : 0 ≤ x5_1; rotate_left
   ·rw [if_neg c4] at H; exact absurd H (by simp)
   rw [if_pos c4] at H; have c4b0 := decide_eq_true c4; clear c4; obtain ⟨y101, hy_⟩ : ∃ y_ : List (S83), y_ = (x0_1.set (x5_1 : Int).toNat (⟨x1_1, (rd_T83 x0_1 x5_1).f1⟩ : S83)) := ⟨_, rfl⟩; (replace H : (laws_markEdgeS.l0 k1 (y101.set (x5_1 : Int).toNat (⟨(rd_T83 y101 x5_1).f0, wrap64 (x1_1 + 1)⟩ : S83)) (wrap64 ((wrap64 (x1_1 + 1)) + 1)) (wrap64 (x5_1 + 1))) = some (r1, r2) := zzY); have Ny101 := Aside0.mk hy_; clear hy_; obtain ⟨y102, hy_⟩ : ∃ y_ : List (S83), y_ = (y101.set (x5_1 : Int).toNat (⟨(rd_T83 y101 x5_1).f0, wrap64 (x1_1 + 1)⟩ : S83)) := ⟨_, rfl⟩; (replace H : (laws_markEdgeS.l0 k1 y102 (wrap64 ((wrap64 (x1_1 + 1)) + 1)) (wrap64 (x5_1 + 1))) = some (r1, r2) := zzY); have Ny102 := Aside0.mk hy_; clear hy_; have H' := Aside0.mk H; clear H; obtain ⟨Ao7, co7, eo7⟩ := Kd.R_slice HO_0.out; subst eo7; have p5 : 0 ≤ (x5_1 : Int) := of_decide_eq_true zz4; have q5 : (x5_1 : Int) < ((x0_1.length : Int) : Int) := of_decide_eq_true zz4; obtain ⟨go5, co5, eo5, gb5, gl5, cl5, HG5⟩ := Kd.R_form HO_0.out (by omega); (first | cases eo5 | (injection eo5 with ea_ en_ ec_; (first | subst ea_ | (injection ea_ with ea_; subst ea_)); subst ec_; clear en_)); have GB5 := Aside0.mk gb5; have GG5 := Aside0.mk HG5; clear gb5 gl5 HG5; have HMgo5 := Aside0.mk (show (P0_ go5 ∨ w.heap.size ≤ go5) from (HO_0.out.1 _ rfl)); obtain ⟨ce5, hcl5, hM5, hcc5, hfr5⟩ := Kd.R_elem HO_0.out z83 (x5_1 : Int) p5 q5; obtain rfl := k83_openM hM5; have hx5_0 : wr.cell? ⟨go5, (x5_1 : Int).toNat * 2, none⟩ = some (.int .i64 ((rd_T83 x0_1 x5_1).f0)) := hcc5 0 _ rfl; have hx5_1 : wr.cell? ⟨go5, (x5_1 : Int).toNat * 2 + 1, none⟩ = some (.int .i64 ((rd_T83 x0_1 x5_1).f1)) := hcc5 1 _ rfl; have hf5_0 : wr.frozen? ⟨go5, (x5_1 : Int).toNat * 2, none⟩ = false := hfr5 0; have hf5_1 : wr.frozen? ⟨go5, (x5_1 : Int).toNat * 2 + 1, none⟩ = false := hfr5 1; clear hcl5 hcc5 hfr5; (try clear hM5); replace p5 := eq_true p5; replace q5 := eq_true q5; have HX8 := Aside0.mk (show Kd.R k83 83 wr w0.heap.size (fun k_ => (P0_ k_ ∨ w.heap.size ≤ k_)) (.slice (some ⟨go5, 0, none⟩) x0_1.length co7) x0_1 from (by (with_reducible repeat (first | apply Kd.R_alloc | apply Kd.R_drewN | apply Kd.R_drew)); exact HO_0.out)); obtain ⟨ce8, hcl8, hM8, hcc8, hfr8⟩ := Kd.R_elem HX8.out z83 (x5_1 : Int) (of_decide_eq_true zz4) (by have h_ : (x5_1 : Int) < ((x0_1.length : Int) : Int) := of_decide_eq_true zz4; first | exact h_ | (have e_ := (Kd.R_reads' HO_0.out).1; omega) | simpa using h_); obtain rfl := k83_openM hM8; have HP8 := Kd.R_seg HX8.out (x5_1 : Int) (of_decide_eq_true zz4) (by have h_ : (x5_1 : Int) < ((x0_1.length : Int) : Int) := of_decide_eq_true zz4; first | exact h_ | (have e_ := (Kd.R_reads' HO_0.out).1; omega) | simpa using h_) (seg := [.int .i64 x1_1]) (j := 0) hcl8 hcc8 (show 1 ≤ 2 from by decide) (x' := (⟨x1_1, (rd_T83 x0_1 x5_1).f1⟩ : S83)) (k83_mkM _ _ _ (⟨x1_1, (rd_T83 x0_1 x5_1).f1⟩ : S83) ) (fun _ hk => hk); have hx8_0 := hcc8 0 _ rfl; (try simp only [show (k83).sz = 2 from rfl, Nat.mul_one, Nat.add_zero] at hx8_0); have hf8_0 := hfr8 0; (try simp only [show (k83).sz = 2 from rfl, Nat.mul_one, Nat.add_zero] at hf8_0); clear hcl8 hcc8 hfr8; (try clear hM8); (go_wp2_with (first | ((with_reducible refine gate_store (t := 3) (p := 16) rfl ?_); refine store_event (t := 3) (p := 16) (v := ?vo_w9) (w1 := (wr.setCell ⟨go5, (x5_1 : Int).toNat * 2, none⟩ (.int .i64 x1_1))) ?hg ?ho ?hn ?hr ?_; (case ho => rfl); (case hg => rfl); (case hn => rfl); (case hr => exact zz14); intro w9 hw; have hg : wr.grownBy w9 (some go5) := (by rw [hw]; exact HP8.2); have hp_ : Kd.R k83 83 w9 w0.heap.size (fun k_ => (P0_ k_ ∨ w.heap.size ≤ k_)) (.slice (some ⟨go5, 0, none⟩) x0_1.length co7) y101 := (by rw [hw, Ny101.out]; exact HP8.1); clear HP8; have n_ := zA3 hp_ (by rw [hw]; exact below_set (HB.out) GB5.out : Below w0.heap.size w0 w9) (Kept.of_grown (S := (fun k_ => P0_ k_)) hg zz40 (fun k_ e_ => (HO_0.out.1 k_ e_))); clear HO_0 HB HK; obtain ⟨HO_0, HB, HK⟩ := n_; clear hg hw hp_; have p6 : 0 ≤ (x5_1 : Int) := of_decide_eq_true zz4; have q6 : (x5_1 : Int) < ((x0_1.length : Int) : Int) := of_decide_eq_true zz4; obtain ⟨ce6, hcl6, hM6, hcc6, hfr6⟩ := Kd.R_elem HO_0.out z83 (x5_1 : Int) p6 q6; obtain rfl := k83_openM hM6; have hx6_0 : w9.cell? ⟨go5, (x5_1 : Int).toNat * 2, none⟩ = some (.int .i64 ((rd_T83 y101 x5_1).f0)) := hcc6 0 _ rfl; have hx6_1 : w9.cell? ⟨go5, (x5_1 : Int).toNat * 2 + 1, none⟩ = some (.int .i64 ((rd_T83 y101 x5_1).f1)) := hcc6 1 _ rfl; have hf6_0 : w9.frozen? ⟨go5, (x5_1 : Int).toNat * 2, none⟩ = false := hfr6 0; have hf6_1 : w9.frozen? ⟨go5, (x5_1 : Int).toNat * 2 + 1, none⟩ = false := hfr6 1; clear hcl6 hcc6 hfr6; (try clear hM6); replace p6 := eq_true p6; replace q6 := eq_true q6; have HX10 := Aside0.mk (show Kd.R k83 83 w9 w0.heap.size (fun k_ => (P0_ k_ ∨ w.heap.size ≤ k_)) (.slice (some ⟨go5, 0, none⟩) x0_1.length co7) y101 from (by (with_reducible repeat (first | apply Kd.R_alloc | apply Kd.R_drewN | apply Kd.R_drew)); exact HO_0.out)); obtain ⟨ce10, hcl10, hM10, hcc10, hfr10⟩ := Kd.R_elem HX10.out z83 (x5_1 : Int) (of_decide_eq_true zz4) (by have h_ : (x5_1 : Int) < ((x0_1.length : Int) : Int) := of_decide_eq_true zz4; first | exact h_ | (have e_ := (Kd.R_reads' HO_0.out).1; omega) | simpa using h_); obtain rfl := k83_openM hM10; have HP10 := Kd.R_seg HX10.out (x5_1 : Int) (of_decide_eq_true zz4) (by have h_ : (x5_1 : Int) < ((x0_1.length : Int) : Int) := of_decide_eq_true zz4; first | exact h_ | (have e_ := (Kd.R_reads' HO_0.out).1; omega) | simpa using h_) (seg := [.int .i64 (wrap64 (x1_1 + 1))]) (j := 1) hcl10 hcc10 (show 2 ≤ 2 from by decide) (x' := (⟨(rd_T83 y101 x5_1).f0, wrap64 (x1_1 + 1)⟩ : S83)) (k83_mkM _ _ _ (⟨(rd_T83 y101 x5_1).f0, wrap64 (x1_1 + 1)⟩ : S83) ) (fun _ hk => hk); have hx10_1 := hcc10 1 _ rfl; (try simp only [show (k83).sz = 2 from rfl, Nat.mul_one, Nat.add_zero] at hx10_1); have hf10_1 := hfr10 1; (try simp only [show (k83).sz = 2 from rfl, Nat.mul_one, Nat.add_zero] at hf10_1); clear hcl10 hcc10 hfr10; (try clear hM10)) | ((with_reducible refine gate_store (t := 3) (p := 23) rfl ?_); refine store_event (t := 3) (p := 23) (v := ?vo_w11) (w1 := (w9.setCell ⟨go5, (x5_1 : Int).toNat * 2 + 1, none⟩ (.int .i64 (wrap64 (x1_1 + 1))))) ?hg ?ho ?hn ?hr ?_; (case ho => rfl); (case hg => rfl); (case hn => rfl); (case hr => exact zz14); intro w11 hw; have hg : w9.grownBy w11 (some go5) := (by rw [hw]; exact HP10.2); have hp_ : Kd.R k83 83 w11 w0.heap.size (fun k_ => (P0_ k_ ∨ w.heap.size ≤ k_)) (.slice (some ⟨go5, 0, none⟩) x0_1.length co7) y102 := (by rw [hw, Ny102.out]; exact HP10.1); clear HP10; have n_ := zA3 hp_ (by rw [hw]; exact below_set (HB.out) GB5.out : Below w0.heap.size w0 w11) (Kept.of_grown (S := (fun k_ => P0_ k_)) hg zz40 (fun k_ e_ => (HO_0.out.1 k_ e_))); clear HO_0 HB HK; obtain ⟨HO_0, HB, HK⟩ := n_; clear hg hw hp_))); go_roundg k1; (case measure => have := HK1.out; omega); case rel => exact ⟨(y102), (wrap64 ((wrap64 (x1_1 + 1)) + 1)), (wrap64 (x5_1 + 1)), zz8, zz8, H', ⟨zz41⟩, ⟨by (with_reducible repeat (first | apply Kd.R_alloc | apply Kd.R_drewN | apply Kd.R_drew)); exact HO_0.out⟩, ⟨zz40⟩, ⟨zz1⟩⟩
def laws_markGraph.f (k : Nat) (a0_0 : Int) (l0_1 : List (S83)) (a1 : Int) : Option (Int × (List (S83))) := (laws_markEdgeS.f k l0_1 a1).bind fun bt102 => (some (bt102.1, bt102.2))
theorem laws_markGraph.mono : ∀ a0 a1 a2 k, LeO (laws_markGraph.f k a0 a1 a2) (laws_markGraph.f (k + 1) a0 a1 a2) := by
 intro a0 a1 a2 k; unfold laws_markGraph.f; repeat' first | (with_reducible apply laws_markEdgeS.mono) | (with_reducible exact LeO.refl _) | (with_reducible exact LeO.none _) | (with_reducible refine LeO.ite ?_ ?_) | (with_reducible refine LeO.bind ?_ (fun _ => ?_)) | apply laws_markEdgeS.mono | exact LeO.none _ | refine LeO.ite ?_ ?_ | refine LeO.bind ?_ (fun _ => ?_)
set_option maxHeartbeats 8000000 in
set_option maxRecDepth 100000 in
theorem laws_markGraph.calls (k : Nat) (a0_0 : Int) (P0_1_ : Nat → Prop) (u9000_ : Value) (l0_1 : List (S83)) (a1 : Int) (r1 : Int) (r2 : List (S83)) (w0 w : World) (hB : Below w0.heap.size w0 w) (ho0_1 : Kd.R k83 83 w w0.heap.size P0_1_ u9000_ l0_1) (h : laws_markGraph.f k a0_0 l0_1 a1 = some (r1, r2)) :
  Calls Try.prog 29 #[.agg #[.int .i64 a0_0, u9000_], .int .i64 a1] w fun e w' => e = .returned (.int .i64 r1) ∧ Kd.R k83 83 w' w0.heap.size (fun k_ => (P0_1_ k_ ∨ w.heap.size ≤ k_)) u9000_ r2 ∧ Below w0.heap.size w0 w' ∧ Kept w w' (fun k_ => P0_1_ k_) := by
 have hu25 := Try.underlying25; have HO0_1 := Aside0.mk (show Kd.R k83 83 w w0.heap.size (fun k_ => (P0_1_ k_ ∨ w.heap.size ≤ k_)) u9000_ l0_1 from Kd.R_mono ho0_1 (fun k_ hk => (.inl hk))); have HK := Aside0.mk (Kept.refl w (fun k_ => P0_1_ k_)); have HW0 := Aside0.mk hB.size; have HB := Aside0.mk hB; clear hB; have H : ((laws_markEdgeS.f k l0_1 a1).bind fun bt102 => (some (bt102.1, bt102.2))) = some (r1, r2) := h; clear h; replace H := Option.bind_eq_some_iff.mp H; obtain ⟨⟨t102, t103⟩, A30, H⟩ := H; dsimp only at H; have A3 := Aside0.mk A30; clear A30; simp only [Option.some.injEq, Prod.mk.injEq] at H; obtain ⟨rfl, rfl⟩ := H; obtain ⟨Ao4, co4, eo4⟩ := Kd.R_slice HO0_1.out; subst eo4; go_enter Try.func29, Try.ntmps29; (go_wp2_with (first | ((with_reducible refine gate_dst (N := 2) rfl ?_); refine box_event ?hg (N := 2) ?hd (cs := #[.int .i64 a0_0, .slice Ao4 l0_1.length co4]) (t := 25) ?hr ?_; (case hd => rfl); (case hg => rfl); (case hr => exact zz14); intro gb101 hg w5 hbox hb; have n_ := zA6 (Kd.R_below (by (with_reducible repeat (first | apply Kd.R_alloc | apply Kd.R_drewN | apply Kd.R_drew)); exact HO0_1.out) hb) (Kept.below (S := (fun k_ => P0_1_ k_)) zz40 hb) (below_step zz1 hb) hbox (by rw [hg]; exact (by first | exact HK.out.1 | exact (show Kept w _ (fun k_ => P0_1_ k_) from by repeat (first | (with_reducible first | exact HK.out | apply Kept.alloc | apply Kept.drewN | apply Kept.drew) | exact HK.out)).1) : w.heap.size ≤ gb101) (zz11 : w0.heap.size ≤ gb101); clear HO0_1 HK HB; obtain ⟨HO0_1, HK, HB, BK101, GW101, GE101⟩ := n_; clear hb hbox hg; have hcz6_0 := zC20 BK101; have hcz6_1 := zC21 BK101; have hfz6_0 := blk_frozen BK101.out 0; have hfz6_1 := blk_frozen BK101.out 1) | ((with_reducible refine gate_callee (f := 70) rfl ?_); refine goesL_ (some 8) rfl rfl Try.func70 (by kernel_rfl) rfl #[.slice Ao4 l0_1.length co4, .int .i64 a1] rfl zz3 ?_; (with_reducible refine (laws_markEdgeS.calls k (fun k_ => some k_ = (.slice Ao4 l0_1.length co4 : Value).ownBlock) (.slice Ao4 l0_1.length co4) l0_1 a1 t102 t103 w0 _ ?side1 ?side2 A3.out).mono ?_); (case side1 => repeat (first | (with_reducible first | exact HB.out | apply below_alloc | apply pw_below_drewN | apply below_drew1 | refine below_set ?_ GE101.out) | exact HB.out)); (case side2 => exact Kd.R_tight rfl HO0_1.out); rintro e w7 ⟨rfl, hy0, hb, hkp⟩; refine ⟨_, rfl, ?_⟩; have n_ := zA4 (Kd.R_reok rfl hy0 (fun k_ e_ => HO0_1.out.1 k_ e_)) (blk_kept zz2 hkp (fun hs_ => (fun e_ => (Kd.R_ne HO0_1.out BK101.out (by decide)) e_) hs_)) (Kept.then_ (S := (fun k_ => P0_1_ k_)) zz50 hkp (fun k_ hs_ => (fun e_ => (HO0_1.out.1 k_ e_.symm)) hs_)) hb; clear HO0_1 BK101 HK HB; obtain ⟨HO0_1, BK101, HK, HB⟩ := n_; clear hy0 hb hkp))); go_ret; exact ⟨zz6, by (with_reducible repeat (first | apply Kd.R_alloc | apply Kd.R_drewN | apply Kd.R_drew)); exact HO0_1.out, zz0, zz50⟩
mutual
def laws_FnExactSumOfPiles.j0 : Nat → List Int → List Int → Int → List Int → Bool → List Int → List Int → List Int → Bool → Bool → Int → List (S92) → Int → List (S83) → Option (Bool)
 | 0, _, _, _, _, _, _, _, _, _, _, _, _, _, _ => none
 | k + 1, x1, x2, x3, x10, x11, x13, x14, x15, x16, x66, x102000, x102001, x122000, x122001 => if x66 = true then (none) else ((laws_toGraph.f k x102000 x102001).bind fun bt133 => ((laws_eqGraph.f k x122000 x122001 bt133.1 bt133.2).bind fun t137 => (if t137 = true then ((laws_toIntS.f k x1).bind fun t138 => ((laws_eqIntS.f k x13 t138).bind fun t141 => (if t141 = true then ((laws_toIntS.f k x2).bind fun t142 => ((laws_eqIntS.f k x14 t142).bind fun t145 => (if t145 = true then ((laws_markGraph.f k x122000 x122001 1).bind fun bt146 => ((laws_markIntS.f k x13 bt146.1).bind fun bt148 => ((laws_markIntS.f k x14 bt148.1).bind fun bt150 => (if bt150.1 < 0 then (laws_FnExactSumOfPiles.j1 k x1 x2 x3 x10 x11 x15 true x102000 x102001) else ((laws_eqIntS.f k x15 x10).bind fun t152 => (if t152 = true then (laws_FnExactSumOfPiles.j1 k x1 x2 x3 x10 x11 x15 (x16 != x11) x102000 x102001) else (laws_FnExactSumOfPiles.j1 k x1 x2 x3 x10 x11 x15 true x102000 x102001))))))) else (none)))) else (none)))) else (none))))
def laws_FnExactSumOfPiles.j1 : Nat → List Int → List Int → Int → List Int → Bool → List Int → Bool → Int → List (S92) → Option (Bool)
 | 0, _, _, _, _, _, _, _, _, _ => none
 | k + 1, x1, x2, x3, x10, x11, x15, x103, x102000, x102001 => if x103 = true then (none) else ((laws_markIntS.f k x15 1).bind fun bt153 => ((laws_heldIntS.f k bt153.2 1).bind fun t155 => (if t155 < 0 then (none) else (if t155 = bt153.1 then ((laws_toGraph.f k x102000 x102001).bind fun bt156 => ((laws_toIntS.f k x1).bind fun t160 => ((laws_toIntS.f k x2).bind fun t163 => ((impl_SumOfPiles.f k bt156.1 bt156.2 t160 t163 x3).bind fun bt166 => ((laws_eqIntS.f k bt166.1 x10).bind fun t170 => (if t170 = true then (laws_FnExactSumOfPiles.j2 k bt153.2 bt153.1 (bt166.2 != x11)) else (laws_FnExactSumOfPiles.j2 k bt153.2 bt153.1 true))))))) else (none)))))
def laws_FnExactSumOfPiles.j2 : Nat → List Int → Int → Bool → Option (Bool)
 | 0, _, _, _ => none
 | k + 1, x15, x18, x134 => if x134 = true then (none) else ((laws_heldIntS.f k x15 1).bind fun t171 => (if t171 < 0 then (none) else (if t171 = x18 then (some true) else (none))))
end
def laws_FnExactSumOfPiles.f (k : Nat) (a0_0 : Int) (l0_1 : List (S92)) (l1 : List Int) (l2 : List Int) (a3 : Int) : Option (Bool) := if (l1.length : Int) > 1048576 then (some true) else (if (l2.length : Int) > 1048576 then (some true) else ((laws_szGraph.f a0_0 l0_1 1048576).bind fun t102 => (if t102 < 0 then (some true) else ((laws_toGraph.f k a0_0 l0_1).bind fun bt103 => ((laws_toIntS.f k l1).bind fun t107 => ((laws_toIntS.f k l2).bind fun t110 => ((spec_SumOfPiles.f k bt103.1 bt103.2 t107 t110 a3).bind fun bt113 => ((laws_toGraph.f k a0_0 l0_1).bind fun bt117 => ((laws_toIntS.f k l1).bind fun t122 => ((laws_toIntS.f k l2).bind fun t125 => ((impl_SumOfPiles.f k bt117.1 bt117.2 t122 t125 a3).bind fun bt128 => ((laws_eqIntS.f k bt128.1 bt113.1).bind fun t132 => (if t132 = true then (laws_FnExactSumOfPiles.j0 k l1 l2 a3 bt113.1 bt113.2 t122 t125 bt128.1 bt128.2 (bt128.2 != bt113.2) a0_0 l0_1 bt117.1 bt117.2) else (laws_FnExactSumOfPiles.j0 k l1 l2 a3 bt113.1 bt113.2 t122 t125 bt128.1 bt128.2 true a0_0 l0_1 bt117.1 bt117.2))))))))))))))
theorem laws_FnExactSumOfPiles.mono_l : ∀ k, (∀ y0 y1 y2 y3 y4 y5 y6 y7 y8 y9 y10 y11 y12 y13, LeO (laws_FnExactSumOfPiles.j0 k y0 y1 y2 y3 y4 y5 y6 y7 y8 y9 y10 y11 y12 y13) (laws_FnExactSumOfPiles.j0 (k + 1) y0 y1 y2 y3 y4 y5 y6 y7 y8 y9 y10 y11 y12 y13)) ∧ (∀ y0 y1 y2 y3 y4 y5 y6 y7 y8, LeO (laws_FnExactSumOfPiles.j1 k y0 y1 y2 y3 y4 y5 y6 y7 y8) (laws_FnExactSumOfPiles.j1 (k + 1) y0 y1 y2 y3 y4 y5 y6 y7 y8)) ∧ (∀ y0 y1 y2, LeO (laws_FnExactSumOfPiles.j2 k y0 y1 y2) (laws_FnExactSumOfPiles.j2 (k + 1) y0 y1 y2))
 | 0 => ⟨fun _ _ _ _ _ _ _ _ _ _ _ _ _ _ r h => by simp [laws_FnExactSumOfPiles.j0] at h, fun _ _ _ _ _ _ _ _ _ r h => by simp [laws_FnExactSumOfPiles.j1] at h, fun _ _ _ r h => by simp [laws_FnExactSumOfPiles.j2] at h⟩
 | k + 1 => by
  obtain ⟨ih0, ih1, ih2⟩ := laws_FnExactSumOfPiles.mono_l k
  refine ⟨?_, ?_, ?_⟩
  ·intro y0 y1 y2 y3 y4 y5 y6 y7 y8 y9 y10 y11 y12 y13
   unfold laws_FnExactSumOfPiles.j0
   exact zm2
  ·intro y0 y1 y2 y3 y4 y5 y6 y7 y8
   unfold laws_FnExactSumOfPiles.j1
   exact zm2
  ·intro y0 y1 y2
   unfold laws_FnExactSumOfPiles.j2
   exact zm2
theorem laws_FnExactSumOfPiles.mono : ∀ a0 a1 a2 a3 a4 k, LeO (laws_FnExactSumOfPiles.f k a0 a1 a2 a3 a4) (laws_FnExactSumOfPiles.f (k + 1) a0 a1 a2 a3 a4) := by
 intro a0 a1 a2 a3 a4 k; obtain ⟨ih0, ih1, ih2⟩ := laws_FnExactSumOfPiles.mono_l k; unfold laws_FnExactSumOfPiles.f; exact zm2
set_option maxHeartbeats 8000000 in
set_option maxRecDepth 100000 in
theorem laws_FnExactSumOfPiles.calls (k : Nat) (a0_0 : Int) (A0_1 : Option Addr) (c0_1 : Nat) (l0_1 : List (S92)) (A1 : Option Addr) (c1 : Nat) (l1 : List Int) (A2 : Option Addr) (c2 : Nat) (l2 : List Int) (a3 : Int) (r : Bool) (w : World) (hr0_1 : Kd.C k92 w A0_1 l0_1.length l0_1) (hc0_1 : l0_1.length ≤ c0_1) (hr1 : Kd.C (Kd.int .i64) w A1 l1.length l1) (hc1 : l1.length ≤ c1) (hr2 : Kd.C (Kd.int .i64) w A2 l2.length l2) (hc2 : l2.length ≤ c2) (h : laws_FnExactSumOfPiles.f k a0_0 l0_1 l1 l2 a3 = some r) :
  Calls Try.prog 5 #[.agg #[.int .i64 a0_0, .slice A0_1 l0_1.length c0_1], .slice A1 l1.length c1, .slice A2 l2.length c2, .int .i64 a3] w fun e w' => e = .returned (.bool r) ∧ Below w.heap.size w w' := by
 have hu44 := Try.underlying44; have hu25 := Try.underlying25; have HR0_1 := Aside0.mk hr0_1; have HC0_1 := Aside0.mk hc0_1; clear hr0_1 hc0_1; have HR1 := Aside0.mk hr1; have HC1 := Aside0.mk hc1; clear hr1 hc1; have HR2 := Aside0.mk hr2; have HC2 := Aside0.mk hc2; clear hr2 hc2; have HB := Aside0.mk (Below.refl w.heap.size w); have H : (if (l1.length : Int) > 1048576 then (some true) else (if (l2.length : Int) > 1048576 then (some true) else ((laws_szGraph.f a0_0 l0_1 1048576).bind fun t102 => (if t102 < 0 then (some true) else ((laws_toGraph.f k a0_0 l0_1).bind fun bt103 => ((laws_toIntS.f k l1).bind fun t107 => ((laws_toIntS.f k l2).bind fun t110 => ((spec_SumOfPiles.f k bt103.1 bt103.2 t107 t110 a3).bind fun bt113 => ((laws_toGraph.f k a0_0 l0_1).bind fun bt117 => ((laws_toIntS.f k l1).bind fun t122 => ((laws_toIntS.f k l2).bind fun t125 => ((impl_SumOfPiles.f k bt117.1 bt117.2 t122 t125 a3).bind fun bt128 => ((laws_eqIntS.f k bt128.1 bt113.1).bind fun t132 => (if t132 = true then (laws_FnExactSumOfPiles.j0 k l1 l2 a3 bt113.1 bt113.2 t122 t125 bt128.1 bt128.2 (bt128.2 != bt113.2) a0_0 l0_1 bt117.1 bt117.2) else (laws_FnExactSumOfPiles.j0 k l1 l2 a3 bt113.1 bt113.2 t122 t125 bt128.1 bt128.2 true a0_0 l0_1 bt117.1 bt117.2))))))))))))))) = some r := h; clear h; by_cases c5 : (l1.length : Int) > 1048576
 ·rw [if_pos c5] at H; have c5b0 : decide (1048576 < (l1.length : Int)) = true := decide_eq_true c5; have c5b1 : decide (1048576 < l1.length) = true := decide_eq_true (by omega); clear c5; obtain rfl := Option.some.inj H; go_enter Try.func5, Try.ntmps5; (go_wp2_with (first | ((with_reducible refine gate_dst (N := 4) rfl ?_); refine box_event ?hg (N := 4) ?hd (cs := #[.int .i64 a0_0, .slice A0_1 l0_1.length c0_1]) (t := 44) ?hr ?_; (case hd => rfl); (case hg => rfl); (case hr => exact zz14); intro gb101 hg w6 hbox hb; have n_ := zA4 (below_step zz1 hb) hbox (zz11 : w.heap.size ≤ gb101) (zz11 : w.heap.size ≤ gb101); clear HB; obtain ⟨HB, BK101, GW101, GE101⟩ := n_; clear hb hbox hg))); go_ret; exact ⟨zz6, zz0⟩
 rw [if_neg c5] at H; have c5b0 : decide (1048576 < (l1.length : Int)) = false := decide_eq_false c5; have c5b1 : decide (1048576 < l1.length) = false := decide_eq_false (by omega); clear c5; by_cases c7 : (l2.length : Int) > 1048576
 ·rw [if_pos c7] at H; have c7b0 : decide (1048576 < (l2.length : Int)) = true := decide_eq_true c7; have c7b1 : decide (1048576 < l2.length) = true := decide_eq_true (by omega); clear c7; obtain rfl := Option.some.inj H; go_enter Try.func5, Try.ntmps5; (go_wp2_with (first | ((with_reducible refine gate_dst (N := 4) rfl ?_); refine box_event ?hg (N := 4) ?hd (cs := #[.int .i64 a0_0, .slice A0_1 l0_1.length c0_1]) (t := 44) ?hr ?_; (case hd => rfl); (case hg => rfl); (case hr => exact zz14); intro gb101 hg w8 hbox hb; have n_ := zA4 (below_step zz1 hb) hbox (zz11 : w.heap.size ≤ gb101) (zz11 : w.heap.size ≤ gb101); clear HB; obtain ⟨HB, BK101, GW101, GE101⟩ := n_; clear hb hbox hg))); go_ret; exact ⟨zz6, zz0⟩
 rw [if_neg c7] at H; have c7b0 : decide (1048576 < (l2.length : Int)) = false := decide_eq_false c7; have c7b1 : decide (1048576 < l2.length) = false := decide_eq_false (by omega); clear c7; replace H := Option.bind_eq_some_iff.mp H; obtain ⟨t102, A90, H⟩ := H; (try dsimp only at H); have A9 := Aside0.mk A90; clear A90; by_cases c10 : t102 < 0
 ·rw [if_pos c10] at H; have c10b0 := decide_eq_true c10; clear c10; obtain rfl := Option.some.inj H; go_enter Try.func5, Try.ntmps5; (go_wp2_with (first | ((with_reducible refine gate_dst (N := 4) rfl ?_); refine box_event ?hg (N := 4) ?hd (cs := #[.int .i64 a0_0, .slice A0_1 l0_1.length c0_1]) (t := 44) ?hr ?_; (case hd => rfl); (case hg => rfl); (case hr => exact zz14); intro gb101 hg w11 hbox hb; have n_ := zA4 (below_step zz1 hb) hbox (zz11 : w.heap.size ≤ gb101) (zz11 : w.heap.size ≤ gb101); clear HB; obtain ⟨HB, BK101, GW101, GE101⟩ := n_; clear hb hbox hg; have hcz12_0 := zC20 BK101; have hcz12_1 := zC21 BK101; have hfz12_0 := blk_frozen BK101.out 0; have hfz12_1 := blk_frozen BK101.out 1) | ((with_reducible refine gate_callee (f := 23) rfl ?_); refine goesL_ (some 30) rfl rfl Try.func23 (by kernel_rfl) rfl #[.agg #[.int .i64 a0_0, .slice A0_1 l0_1.length c0_1], .int .i64 1048576] rfl zz3 ?_; (with_reducible refine (laws_szGraph.calls a0_0 _ _ l0_1 1048576 t102 _ ?side1 ?side2 A9.out).mono ?_); (case side1 => exact zz5); (case side2 => exact HC0_1.out); rintro e w13 ⟨rfl, hb⟩; refine ⟨_, rfl, ?_⟩; have n_ := zA2 (blk_below (g := gb101) (o := .cells #[.int .i64 a0_0, .slice A0_1 l0_1.length c0_1] 44 (0, 0)) zz2 hb) (below_step zz0 hb); clear BK101 HB; obtain ⟨BK101, HB⟩ := n_; clear hb))); go_ret; exact ⟨zz6, zz0⟩
 rw [if_neg c10] at H; have c10b0 := decide_eq_false c10; clear c10; replace H := Option.bind_eq_some_iff.mp H; obtain ⟨⟨t103, t104⟩, A140, H⟩ := H; dsimp only at H; have A14 := Aside0.mk A140; clear A140; replace H := Option.bind_eq_some_iff.mp H; obtain ⟨t107, A150, H⟩ := H; (try dsimp only at H); have A15 := Aside0.mk A150; clear A150; replace H := Option.bind_eq_some_iff.mp H; obtain ⟨t110, A160, H⟩ := H; (try dsimp only at H); have A16 := Aside0.mk A160; clear A160; replace H := Option.bind_eq_some_iff.mp H; obtain ⟨⟨t113, t116⟩, A170, H⟩ := H; dsimp only at H; have A17 := Aside0.mk A170; clear A170; replace H := Option.bind_eq_some_iff.mp H; obtain ⟨⟨t117, t118⟩, A180, H⟩ := H; dsimp only at H; have A18 := Aside0.mk A180; clear A180; replace H := Option.bind_eq_some_iff.mp H; obtain ⟨t122, A190, H⟩ := H; (try dsimp only at H); have A19 := Aside0.mk A190; clear A190; replace H := Option.bind_eq_some_iff.mp H; obtain ⟨t125, A200, H⟩ := H; (try dsimp only at H); have A20 := Aside0.mk A200; clear A200; replace H := Option.bind_eq_some_iff.mp H; obtain ⟨⟨t128, t131⟩, A210, H⟩ := H; dsimp only at H; have A21 := Aside0.mk A210; clear A210; have HC22 := Aside0.mk H; clear H; go_enter Try.func5, Try.ntmps5; (go_upto_region 14 with (first | ((with_reducible refine gate_dst (N := 4) rfl ?_); refine box_event ?hg (N := 4) ?hd (cs := #[.int .i64 a0_0, .slice A0_1 l0_1.length c0_1]) (t := 44) ?hr ?_; (case hd => rfl); (case hg => rfl); (case hr => exact zz14); intro gb101 hg w23 hbox hb; have n_ := zA4 (below_step zz1 hb) hbox (zz11 : w.heap.size ≤ gb101) (zz11 : w.heap.size ≤ gb101); clear HB; obtain ⟨HB, BK101, GW101, GE101⟩ := n_; clear hb hbox hg; have hcz24_0 := zC20 BK101; have hcz24_1 := zC21 BK101; have hfz24_0 := blk_frozen BK101.out 0; have hfz24_1 := blk_frozen BK101.out 1) | ((with_reducible refine gate_callee (f := 23) rfl ?_); refine goesL_ (some 30) rfl rfl Try.func23 (by kernel_rfl) rfl #[.agg #[.int .i64 a0_0, .slice A0_1 l0_1.length c0_1], .int .i64 1048576] rfl zz3 ?_; (with_reducible refine (laws_szGraph.calls a0_0 _ _ l0_1 1048576 t102 _ ?side1 ?side2 A9.out).mono ?_); (case side1 => exact zz5); (case side2 => exact HC0_1.out); rintro e w25 ⟨rfl, hb⟩; refine ⟨_, rfl, ?_⟩; have n_ := zA2 (blk_below (g := gb101) (o := .cells #[.int .i64 a0_0, .slice A0_1 l0_1.length c0_1] 44 (0, 0)) zz2 hb) (below_step zz0 hb); clear BK101 HB; obtain ⟨BK101, HB⟩ := n_; clear hb; have hcz26_0 := zC20 BK101; have hcz26_1 := zC21 BK101; have hfz26_0 := blk_frozen BK101.out 0; have hfz26_1 := blk_frozen BK101.out 1) | ((with_reducible refine gate_callee (f := 25) rfl ?_); refine goesL_ (some 35) rfl rfl Try.func25 (by kernel_rfl) rfl #[.agg #[.int .i64 a0_0, .slice A0_1 l0_1.length c0_1]] rfl zz3 ?_; (with_reducible refine (laws_toGraph.calls k a0_0 _ _ l0_1 t103 t104 _ ?side1 ?side2 A14.out).mono ?_); (case side1 => exact zz5); (case side2 => exact HC0_1.out); rintro e w27 ⟨v105, rfl, ho0, hb⟩; refine ⟨_, rfl, ?_⟩; have n_ := zA3 (Kd.R_lower ho0 (below_size zz0)) (blk_below (g := gb101) (o := .cells #[.int .i64 a0_0, .slice A0_1 l0_1.length c0_1] 44 (0, 0)) zz2 hb) (below_step zz0 hb); clear BK101 HB; obtain ⟨HO106, BK101, HB⟩ := n_; clear ho0 hb) | ((with_reducible refine gate_callee (f := 26) rfl ?_); refine goesL_ (some 37) rfl rfl Try.func26 (by kernel_rfl) rfl #[.slice A1 l1.length c1] rfl zz3 ?_; (with_reducible refine (laws_toIntS.calls k _ _ l1 t107 _ ?side1 ?side2 A15.out).mono ?_); (case side1 => exact zz10); (case side2 => exact HC1.out); rintro e w28 ⟨v108, rfl, ho0, hb⟩; refine ⟨_, rfl, ?_⟩; have n_ := zA4 (Kd.R_below zz31 hb) (Kd.R_lower ho0 (below_size zz0)) (blk_below (g := gb101) (o := .cells #[.int .i64 a0_0, .slice A0_1 l0_1.length c0_1] 44 (0, 0)) zz2 hb) (below_step zz0 hb); clear HO106 BK101 HB; obtain ⟨HO106, HO109, BK101, HB⟩ := n_; clear ho0 hb) | ((with_reducible refine gate_callee (f := 26) rfl ?_); refine goesL_ (some 39) rfl rfl Try.func26 (by kernel_rfl) rfl #[.slice A2 l2.length c2] rfl zz3 ?_; (with_reducible refine (laws_toIntS.calls k _ _ l2 t110 _ ?side1 ?side2 A16.out).mono ?_); (case side1 => exact zz23); (case side2 => exact HC2.out); rintro e w29 ⟨v111, rfl, ho0, hb⟩; refine ⟨_, rfl, ?_⟩; have n_ := zA5 (Kd.R_below zz31 hb) (Kd.R_elder' zz30 (Kd.R_base ho0) hb) (Kd.R_lower (Kd.R_new' ho0 (Kd.R_lt zz30)) (below_size zz0)) (blk_below (g := gb101) (o := .cells #[.int .i64 a0_0, .slice A0_1 l0_1.length c0_1] 44 (0, 0)) zz2 hb) (below_step zz0 hb); clear HO106 HO109 BK101 HB; obtain ⟨HO106, HO109, HO112, BK101, HB⟩ := n_; clear ho0 hb; obtain ⟨Ao30, co30, eo30⟩ := Kd.R_slice HO106.out; subst eo30; obtain ⟨Ao31, co31, eo31⟩ := Kd.R_slice HO109.out; subst eo31; obtain ⟨Ao32, co32, eo32⟩ := Kd.R_slice HO112.out; subst eo32) | ((with_reducible refine gate_callee (f := 24) rfl ?_); refine goesL_ (some 41) rfl rfl Try.func24 (by kernel_rfl) rfl #[.agg #[.int .i64 t103, .slice Ao30 t104.length co30], .slice Ao31 t107.length co31, .slice Ao32 t110.length co32, .int .i64 a3] rfl zz3 ?_; (with_reducible refine (spec_SumOfPiles.calls k t103 _ _ t104 _ _ t107 _ _ t110 a3 t113 t116 _ ?side1 ?side2 ?side3 ?side4 ?side5 ?side6 A17.out).mono ?_); (case side1 => repeat (first | exact (Kd.R_reads' HO106.out).2.2 | (with_reducible refine Kd.C_alloc ?_ _) | (with_reducible refine Kd.C_drewN ?_ _) | (with_reducible refine Kd.C_drew ?_))); (case side2 => exact (Kd.R_reads' HO106.out).2.1); (case side3 => repeat (first | exact (Kd.R_reads' HO109.out).2.2 | (with_reducible refine Kd.C_alloc ?_ _) | (with_reducible refine Kd.C_drewN ?_ _) | (with_reducible refine Kd.C_drew ?_))); (case side4 => exact (Kd.R_reads' HO109.out).2.1); (case side5 => repeat (first | exact (Kd.R_reads' HO112.out).2.2 | (with_reducible refine Kd.C_alloc ?_ _) | (with_reducible refine Kd.C_drewN ?_ _) | (with_reducible refine Kd.C_drew ?_))); (case side6 => exact (Kd.R_reads' HO112.out).2.1); rintro e w33 ⟨v114, rfl, ho0, hb⟩; refine ⟨_, rfl, ?_⟩; have n_ := zA6 (Kd.R_below zz31 hb) (Kd.R_elder' zz30 (Kd.R_base ho0) hb) (Kd.R_elder' zz36 (Kd.R_base ho0) hb) (Kd.R_lower (Kd.R_new' (Kd.R_new' ho0 (Kd.R_lt zz30)) (Kd.R_lt zz36)) (below_size zz0)) (blk_below (g := gb101) (o := .cells #[.int .i64 a0_0, .slice A0_1 l0_1.length c0_1] 44 (0, 0)) zz2 hb) (below_step zz0 hb); clear HO106 HO109 HO112 BK101 HB; obtain ⟨HO106, HO109, HO112, HO115, BK101, HB⟩ := n_; clear ho0 hb; have hcz34_0 := zC20 BK101; have hcz34_1 := zC21 BK101; have hfz34_0 := blk_frozen BK101.out 0; have hfz34_1 := blk_frozen BK101.out 1) | ((with_reducible refine gate_callee (f := 25) rfl ?_); refine goesL_ (some 45) rfl rfl Try.func25 (by kernel_rfl) rfl #[.agg #[.int .i64 a0_0, .slice A0_1 l0_1.length c0_1]] rfl zz3 ?_; (with_reducible refine (laws_toGraph.calls k a0_0 _ _ l0_1 t117 t118 _ ?side1 ?side2 A18.out).mono ?_); (case side1 => exact zz5); (case side2 => exact HC0_1.out); rintro e w35 ⟨v119, rfl, ho0, hb⟩; refine ⟨_, rfl, ?_⟩; have n_ := zA7 (Kd.R_elder' zz31 (Kd.R_base ho0) hb) (Kd.R_below zz30 hb) (Kd.R_below zz36 hb) (Kd.R_below zz45 hb) (Kd.R_lower (Kd.R_new' ho0 (Kd.R_lt zz31)) (below_size zz0)) (blk_below (g := gb101) (o := .cells #[.int .i64 a0_0, .slice A0_1 l0_1.length c0_1] 44 (0, 0)) zz2 hb) (below_step zz0 hb); clear HO106 HO109 HO112 HO115 BK101 HB; obtain ⟨HO106, HO109, HO112, HO115, HO120, BK101, HB⟩ := n_; clear ho0 hb) | ((with_reducible refine gate_dst (N := 12) rfl ?_); refine box_event ?hg (N := 12) ?hd (cs := #[.int .i64 0, .slice none 0 0]) (t := 25) ?hr ?_; (case hd => rfl); (case hg => rfl); (case hr => exact zz14); intro gb121 hg w36 hbox hb; have n_ := zA12 (Kd.R_below zz31 hb) (Kd.R_below zz30 hb) (Kd.R_below zz36 hb) (Kd.R_below zz45 hb) (Kd.R_below (by (with_reducible repeat (first | apply Kd.R_alloc | apply Kd.R_drewN | apply Kd.R_drew)); exact HO120.out) hb) (blk_below (g := gb101) (o := .cells #[.int .i64 a0_0, .slice A0_1 l0_1.length c0_1] 44 (0, 0)) zz2 hb) (below_step zz0 hb) hbox (zz15 : w.heap.size ≤ gb121) (zz15 : w.heap.size ≤ gb121) (by rw [hg]; exact Nat.ne_of_lt (blk_lt (g := gb101) (o := .cells #[.int .i64 a0_0, .slice A0_1 l0_1.length c0_1] 44 (0, 0)) zz2) : gb101 ≠ gb121) (by rw [hg]; exact Nat.ne_of_gt (blk_lt (g := gb101) (o := .cells #[.int .i64 a0_0, .slice A0_1 l0_1.length c0_1] 44 (0, 0)) zz2) : gb121 ≠ gb101); clear HO106 HO109 HO112 HO115 HO120 BK101 HB; obtain ⟨HO106, HO109, HO112, HO115, HO120, BK101, HB, BK121, GW121, GE121, NB101_121, NB121_101⟩ := n_; clear hb hbox hg; have hnb37 := NB121_101.out; have hnc37 := NB101_121.out; have hcz38_0 := zC20 BK121; have hcz38_1 := zC21 BK121; have hfz38_0 := blk_frozen BK121.out 0; have hfz38_1 := blk_frozen BK121.out 1; obtain ⟨Ao39, co39, eo39⟩ := Kd.R_slice HO120.out; subst eo39) | ((with_reducible refine gate_callee (f := 26) rfl ?_); refine goesL_ (some 47) rfl rfl Try.func26 (by kernel_rfl) rfl #[.slice A1 l1.length c1] rfl zz3 ?_; (with_reducible refine (laws_toIntS.calls k _ _ l1 t122 _ ?side1 ?side2 A19.out).mono ?_); (case side1 => exact Kd.C_below HR1.out zz9); (case side2 => exact HC1.out); rintro e w40 ⟨v123, rfl, ho0, hb⟩; refine ⟨_, rfl, ?_⟩; have n_ := zA9 (Kd.R_below (by (with_reducible repeat (first | apply Kd.R_alloc | apply Kd.R_drewN | apply Kd.R_drew)); exact (Kd.R_mono (Kd.R_far (p := ⟨gb121, 1, none⟩) (Kd.R_far (p := ⟨gb121, 0, none⟩) (Kd.R_types HO106.out BK121.out (by decide)) (fun _ hk => hk.2) (.int .i64 t117)) (fun _ hk => hk.2) (.slice Ao39 t118.length co39)) (fun _ h_ => h_.1))) hb) (Kd.R_elder' zz66 (Kd.R_base ho0) hb) (Kd.R_elder' zz67 (Kd.R_base ho0) hb) (Kd.R_elder' zz68 (Kd.R_base ho0) hb) (Kd.R_below (by (with_reducible repeat (first | apply Kd.R_alloc | apply Kd.R_drewN | apply Kd.R_drew)); exact (Kd.R_mono (Kd.R_far (p := ⟨gb121, 1, none⟩) (Kd.R_far (p := ⟨gb121, 0, none⟩) (Kd.R_types HO120.out BK121.out (by decide)) (fun _ hk => hk.2) (.int .i64 t117)) (fun _ hk => hk.2) (.slice Ao39 t118.length co39)) (fun _ h_ => h_.1))) hb) (Kd.R_lower (Kd.R_new' (Kd.R_new' (Kd.R_new' ho0 (Kd.R_lt zz66)) (Kd.R_lt zz67)) (Kd.R_lt zz68)) (below_size zz9)) (blk_below (g := gb101) (o := .cells #[.int .i64 a0_0, .slice A0_1 l0_1.length c0_1] 44 (0, 0)) (by (with_reducible repeat (first | refine blk_drewN ?_ _ | refine blk_drew ?_ | refine blk_alloc ?_ _)); refine blk_far ?_ NB101_121.out _; (with_reducible repeat (first | refine blk_drewN ?_ _ | refine blk_drew ?_ | refine blk_alloc ?_ _)); refine blk_far ?_ NB101_121.out _; (with_reducible repeat (first | refine blk_drewN ?_ _ | refine blk_drew ?_ | refine blk_alloc ?_ _)); exact BK101.out) hb) (blk_below (g := gb121) (o := .cells #[.int .i64 t117, .slice Ao39 t118.length co39] 25 (0, 0)) (by (with_reducible repeat (first | refine blk_drewN ?_ _ | refine blk_drew ?_ | refine blk_alloc ?_ _)); refine blk_put (cs := #[.int .i64 t117, .slice none 0 0]) ?_ 1 _ rfl; (with_reducible repeat (first | refine blk_drewN ?_ _ | refine blk_drew ?_ | refine blk_alloc ?_ _)); refine blk_put (cs := #[.int .i64 0, .slice none 0 0]) ?_ 0 _ rfl; (with_reducible repeat (first | refine blk_drewN ?_ _ | refine blk_drew ?_ | refine blk_alloc ?_ _)); exact BK121.out) hb) (below_step zz9 hb); clear HO106 HO109 HO112 HO115 HO120 BK101 BK121 HB; obtain ⟨HO106, HO109, HO112, HO115, HO120, HO124, BK101, BK121, HB⟩ := n_; clear ho0 hb) | ((with_reducible refine gate_callee (f := 26) rfl ?_); refine goesL_ (some 49) rfl rfl Try.func26 (by kernel_rfl) rfl #[.slice A2 l2.length c2] rfl zz3 ?_; (with_reducible refine (laws_toIntS.calls k _ _ l2 t125 _ ?side1 ?side2 A20.out).mono ?_); (case side1 => exact zz23); (case side2 => exact HC2.out); rintro e w41 ⟨v126, rfl, ho0, hb⟩; refine ⟨_, rfl, ?_⟩; have n_ := zA10 (Kd.R_below zz31 hb) (Kd.R_elder' zz30 (Kd.R_base ho0) hb) (Kd.R_elder' zz36 (Kd.R_base ho0) hb) (Kd.R_elder' zz45 (Kd.R_base ho0) hb) (Kd.R_below (by (with_reducible repeat (first | apply Kd.R_alloc | apply Kd.R_drewN | apply Kd.R_drew)); exact HO120.out) hb) (Kd.R_elder' (by (with_reducible repeat (first | apply Kd.R_alloc | apply Kd.R_drewN | apply Kd.R_drew)); exact HO124.out) (Kd.R_base ho0) hb) (Kd.R_lower (Kd.R_new' (Kd.R_new' (Kd.R_new' (Kd.R_new' ho0 (Kd.R_lt zz30)) (Kd.R_lt zz36)) (Kd.R_lt zz45)) (Kd.R_lt (by (with_reducible repeat (first | apply Kd.R_alloc | apply Kd.R_drewN | apply Kd.R_drew)); exact HO124.out))) (below_size zz9)) (blk_below (g := gb101) (o := .cells #[.int .i64 a0_0, .slice A0_1 l0_1.length c0_1] 44 (0, 0)) zz2 hb) (blk_below (g := gb121) (o := .cells #[.int .i64 t117, .slice Ao39 t118.length co39] 25 (0, 0)) zz21 hb) (below_step zz9 hb); clear HO106 HO109 HO112 HO115 HO120 HO124 BK101 BK121 HB; obtain ⟨HO106, HO109, HO112, HO115, HO120, HO124, HO127, BK101, BK121, HB⟩ := n_; clear ho0 hb; have hcz42_0 := zC20 BK121; have hcz42_1 := zC21 BK121; have hfz42_0 := blk_frozen BK121.out 0; have hfz42_1 := blk_frozen BK121.out 1; obtain ⟨Ao43, co43, eo43⟩ := Kd.R_slice HO124.out; subst eo43; obtain ⟨Ao44, co44, eo44⟩ := Kd.R_slice HO127.out; subst eo44) | ((with_reducible refine gate_callee (f := 15) rfl ?_); refine goesL_ (some 55) rfl rfl Try.func15 (by kernel_rfl) rfl #[.agg #[.int .i64 t117, .slice Ao39 t118.length co39], .slice Ao43 t122.length co43, .slice Ao44 t125.length co44, .int .i64 a3] rfl zz3 ?_; (with_reducible refine (impl_SumOfPiles.calls k t117 _ _ t118 _ _ t122 _ _ t125 a3 t128 t131 _ ?side1 ?side2 ?side3 ?side4 ?side5 ?side6 A21.out).mono ?_); (case side1 => repeat (first | exact (Kd.R_reads' HO120.out).2.2 | (with_reducible refine Kd.C_alloc ?_ _) | (with_reducible refine Kd.C_drewN ?_ _) | (with_reducible refine Kd.C_drew ?_))); (case side2 => exact (Kd.R_reads' HO120.out).2.1); (case side3 => repeat (first | exact (Kd.R_reads' HO124.out).2.2 | (with_reducible refine Kd.C_alloc ?_ _) | (with_reducible refine Kd.C_drewN ?_ _) | (with_reducible refine Kd.C_drew ?_))); (case side4 => exact (Kd.R_reads' HO124.out).2.1); (case side5 => repeat (first | exact (Kd.R_reads' HO127.out).2.2 | (with_reducible refine Kd.C_alloc ?_ _) | (with_reducible refine Kd.C_drewN ?_ _) | (with_reducible refine Kd.C_drew ?_))); (case side6 => exact (Kd.R_reads' HO127.out).2.1); rintro e w45 ⟨v129, rfl, ho0, hb⟩; refine ⟨_, rfl, ?_⟩; have n_ := zA11 (Kd.R_below zz31 hb) (Kd.R_elder' zz30 (Kd.R_base ho0) hb) (Kd.R_elder' zz36 (Kd.R_base ho0) hb) (Kd.R_elder' zz45 (Kd.R_base ho0) hb) (Kd.R_below (by (with_reducible repeat (first | apply Kd.R_alloc | apply Kd.R_drewN | apply Kd.R_drew)); exact HO120.out) hb) (Kd.R_elder' (by (with_reducible repeat (first | apply Kd.R_alloc | apply Kd.R_drewN | apply Kd.R_drew)); exact HO124.out) (Kd.R_base ho0) hb) (Kd.R_elder' (by (with_reducible repeat (first | apply Kd.R_alloc | apply Kd.R_drewN | apply Kd.R_drew)); exact HO127.out) (Kd.R_base ho0) hb) (Kd.R_lower (Kd.R_new' (Kd.R_new' (Kd.R_new' (Kd.R_new' (Kd.R_new' ho0 (Kd.R_lt zz30)) (Kd.R_lt zz36)) (Kd.R_lt zz45)) (Kd.R_lt (by (with_reducible repeat (first | apply Kd.R_alloc | apply Kd.R_drewN | apply Kd.R_drew)); exact HO124.out))) (Kd.R_lt (by (with_reducible repeat (first | apply Kd.R_alloc | apply Kd.R_drewN | apply Kd.R_drew)); exact HO127.out))) (below_size zz9)) (blk_below (g := gb101) (o := .cells #[.int .i64 a0_0, .slice A0_1 l0_1.length c0_1] 44 (0, 0)) zz2 hb) (blk_below (g := gb121) (o := .cells #[.int .i64 t117, .slice Ao39 t118.length co39] 25 (0, 0)) zz21 hb) (below_step zz9 hb); clear HO106 HO109 HO112 HO115 HO120 HO124 HO127 BK101 BK121 HB; obtain ⟨HO106, HO109, HO112, HO115, HO120, HO124, HO127, HO130, BK101, BK121, HB⟩ := n_; clear ho0 hb))); (try simp only [Act.put, List.setIfInBounds_toArray, List.set_cons_zero, List.set_cons_succ]); go_cut [66] (fun v66 wc => ∃ (kq : Nat) (x66_21 : Bool), v66 = .bool x66_21 ∧ Aside0 (laws_FnExactSumOfPiles.j0 kq l1 l2 a3 t113 t116 t122 t125 t128 t131 x66_21 a0_0 l0_1 t117 t118 = some r) ∧ Aside0 (kq ≤ k) ∧ Aside0 (Kd.R (Kd.int .i64) 3 wc w.heap.size (fun k_ => some k_ ≠ ((.slice Ao43 t122.length co43) : Value).ownBlock ∧ some k_ ≠ ((.slice Ao44 t125.length co44) : Value).ownBlock ∧ some k_ ≠ (v129 : Value).ownBlock) v114 t113) ∧ Aside0 (Kd.R (Kd.int .i64) 3 wc w.heap.size (fun k_ => some k_ ≠ (v114 : Value).ownBlock ∧ some k_ ≠ ((.slice Ao44 t125.length co44) : Value).ownBlock ∧ some k_ ≠ (v129 : Value).ownBlock) (.slice Ao43 t122.length co43) t122) ∧ Aside0 (Kd.R (Kd.int .i64) 3 wc w.heap.size (fun k_ => some k_ ≠ (v114 : Value).ownBlock ∧ some k_ ≠ ((.slice Ao43 t122.length co43) : Value).ownBlock ∧ some k_ ≠ (v129 : Value).ownBlock) (.slice Ao44 t125.length co44) t125) ∧ Aside0 (Kd.R (Kd.int .i64) 3 wc w.heap.size (fun k_ => some k_ ≠ (v114 : Value).ownBlock ∧ some k_ ≠ ((.slice Ao43 t122.length co43) : Value).ownBlock ∧ some k_ ≠ ((.slice Ao44 t125.length co44) : Value).ownBlock) v129 t128) ∧ Aside0 (Kd.R k83 83 wc w.heap.size (fun _ => True) (.slice Ao39 t118.length co39) t118) ∧ Aside0 (wc.heap[gb101]? = some (.cells #[.int .i64 a0_0, (.slice A0_1 l0_1.length c0_1)] 44 (0, 0))) ∧ Aside0 (wc.heap[gb121]? = some (.cells #[.int .i64 t117, (.slice Ao39 t118.length co39)] 25 (0, 0))) ∧ Aside0 (Below w.heap.size w wc))
 case first =>
  have H := HC22.out; clear HC22; replace H := Option.bind_eq_some_iff.mp H; obtain ⟨t132, A460, H⟩ := H; (try dsimp only at H); have A46 := Aside0.mk A460; clear A460; by_cases c47 : t132 = true
  ·subst c47; rw [if_pos rfl] at H; have H' := Aside0.mk H; clear H; obtain ⟨Ao48, co48, eo48⟩ := Kd.R_slice HO130.out; subst eo48; obtain ⟨Ao49, co49, eo49⟩ := Kd.R_slice HO115.out; subst eo49; (go_wp2_with (first | ((with_reducible refine gate_callee (f := 27) rfl ?_); refine goesL_ (some 60) rfl rfl Try.func27 (by kernel_rfl) rfl #[.slice Ao48 t128.length co48, .slice Ao49 t113.length co49] rfl zz3 ?_; (with_reducible refine (laws_eqIntS.calls k _ _ t128 _ _ t113 true _ ?side1 ?side2 ?side3 ?side4 A46.out).mono ?_); (case side1 => repeat (first | exact (Kd.R_reads' HO130.out).2.2 | (with_reducible refine Kd.C_alloc ?_ _) | (with_reducible refine Kd.C_drewN ?_ _) | (with_reducible refine Kd.C_drew ?_))); (case side2 => exact (Kd.R_reads' HO130.out).2.1); (case side3 => repeat (first | exact (Kd.R_reads' HO115.out).2.2 | (with_reducible refine Kd.C_alloc ?_ _) | (with_reducible refine Kd.C_drewN ?_ _) | (with_reducible refine Kd.C_drew ?_))); (case side4 => exact (Kd.R_reads' HO115.out).2.1); rintro e w' ⟨rfl, ⟨nd, rfl⟩⟩; refine ⟨_, rfl, ?_⟩))); (go_meet); case rel => exact ⟨_, ((t131 != t116)), zz8, H', ⟨by first | omega | exact Nat.le_refl _⟩, ⟨by (with_reducible repeat (first | apply Kd.R_alloc | apply Kd.R_drewN | apply Kd.R_drew)); exact Kd.R_mono HO115.out (fun _ hk => ⟨hk.1.1.2, ⟨hk.1.2, hk.2⟩⟩)⟩, ⟨by (with_reducible repeat (first | apply Kd.R_alloc | apply Kd.R_drewN | apply Kd.R_drew)); exact Kd.R_mono HO124.out (fun _ hk => ⟨hk.1.1.2, ⟨hk.1.2, hk.2⟩⟩)⟩, ⟨by (with_reducible repeat (first | apply Kd.R_alloc | apply Kd.R_drewN | apply Kd.R_drew)); exact Kd.R_mono HO127.out (fun _ hk => ⟨hk.1.1.2, ⟨hk.1.2, hk.2⟩⟩)⟩, ⟨by (with_reducible repeat (first | apply Kd.R_alloc | apply Kd.R_drewN | apply Kd.R_drew)); exact Kd.R_mono HO130.out (fun _ hk => ⟨hk.1.1.2, ⟨hk.1.2, hk.2⟩⟩)⟩, ⟨by (with_reducible repeat (first | apply Kd.R_alloc | apply Kd.R_drewN | apply Kd.R_drew)); exact Kd.R_mono HO120.out (fun _ hk => trivial)⟩, ⟨zz2⟩, ⟨zz21⟩, ⟨zz9⟩⟩
  replace c47 := Bool.eq_false_iff.mpr c47; subst c47; rw [if_neg (show ¬ (false = true) by decide)] at H; have H' := Aside0.mk H; clear H; obtain ⟨Ao50, co50, eo50⟩ := Kd.R_slice HO130.out; subst eo50; obtain ⟨Ao51, co51, eo51⟩ := Kd.R_slice HO115.out; subst eo51; (go_wp2_with (first | ((with_reducible refine gate_callee (f := 27) rfl ?_); refine goesL_ (some 60) rfl rfl Try.func27 (by kernel_rfl) rfl #[.slice Ao50 t128.length co50, .slice Ao51 t113.length co51] rfl zz3 ?_; (with_reducible refine (laws_eqIntS.calls k _ _ t128 _ _ t113 false _ ?side1 ?side2 ?side3 ?side4 A46.out).mono ?_); (case side1 => repeat (first | exact (Kd.R_reads' HO130.out).2.2 | (with_reducible refine Kd.C_alloc ?_ _) | (with_reducible refine Kd.C_drewN ?_ _) | (with_reducible refine Kd.C_drew ?_))); (case side2 => exact (Kd.R_reads' HO130.out).2.1); (case side3 => repeat (first | exact (Kd.R_reads' HO115.out).2.2 | (with_reducible refine Kd.C_alloc ?_ _) | (with_reducible refine Kd.C_drewN ?_ _) | (with_reducible refine Kd.C_drew ?_))); (case side4 => exact (Kd.R_reads' HO115.out).2.1); rintro e w' ⟨rfl, ⟨nd, rfl⟩⟩; refine ⟨_, rfl, ?_⟩))); (go_meet); case rel => exact ⟨_, (true), zz8, H', ⟨by first | omega | exact Nat.le_refl _⟩, ⟨by (with_reducible repeat (first | apply Kd.R_alloc | apply Kd.R_drewN | apply Kd.R_drew)); exact Kd.R_mono HO115.out (fun _ hk => ⟨hk.1.1.2, ⟨hk.1.2, hk.2⟩⟩)⟩, ⟨by (with_reducible repeat (first | apply Kd.R_alloc | apply Kd.R_drewN | apply Kd.R_drew)); exact Kd.R_mono HO124.out (fun _ hk => ⟨hk.1.1.2, ⟨hk.1.2, hk.2⟩⟩)⟩, ⟨by (with_reducible repeat (first | apply Kd.R_alloc | apply Kd.R_drewN | apply Kd.R_drew)); exact Kd.R_mono HO127.out (fun _ hk => ⟨hk.1.1.2, ⟨hk.1.2, hk.2⟩⟩)⟩, ⟨by (with_reducible repeat (first | apply Kd.R_alloc | apply Kd.R_drewN | apply Kd.R_drew)); exact Kd.R_mono HO130.out (fun _ hk => ⟨hk.1.1.2, ⟨hk.1.2, hk.2⟩⟩)⟩, ⟨by (with_reducible repeat (first | apply Kd.R_alloc | apply Kd.R_drewN | apply Kd.R_drew)); exact Kd.R_mono HO120.out (fun _ hk => trivial)⟩, ⟨zz2⟩, ⟨zz21⟩, ⟨zz9⟩⟩
 case rest =>
  clear HC22; (try clear c1); (try clear c2); (try clear p2); (try clear c3); (try clear c4); (try clear c5); (try clear c5b0); (try clear c5b1); (try clear c7); (try clear c7b0); (try clear c7b1); (try clear c10); (try clear c10b0); (try clear c15); (try clear c23); (try clear c24); (try clear c25); (try clear c26); (try clear c27); (try clear c37); (try clear c47); (try clear hcz12_0); (try clear hcz12_1); (try clear hcz24_0); (try clear hcz24_1); (try clear hcz26_0); (try clear hcz26_1); (try clear hcz34_0); (try clear hcz34_1); (try clear hcz38_0); (try clear hcz38_1); (try clear hcz42_0); (try clear hcz42_1); (try clear hfz12_0); (try clear hfz12_1); (try clear hfz24_0); (try clear hfz24_1); (try clear hfz26_0); (try clear hfz26_1); (try clear hfz34_0); (try clear hfz34_1); (try clear hfz38_0); (try clear hfz38_1); (try clear hfz42_0); (try clear hfz42_1); obtain ⟨kq, x66_21, rfl, HA, HJ21, HO_10, HO_13, HO_14, HO_15, HO_122001, BK101, BK121, HB⟩ := hcut
  cases kq with
  | zero => exact absurd HA.out (by simp [laws_FnExactSumOfPiles.j0])
  | succ kj21 =>
   have H := HA.out; clear HA; simp only [laws_FnExactSumOfPiles.j0] at H; by_cases c52 : x66_21 = true
   ·subst c52; rw [if_pos rfl] at H; exact absurd H (by simp)
   replace c52 := Bool.eq_false_iff.mpr c52; subst c52; rw [if_neg (show ¬ (false = true) by decide)] at H; replace H := Option.bind_eq_some_iff.mp H; obtain ⟨⟨t133, t134⟩, A530, H⟩ := H; dsimp only at H; have A53 := Aside0.mk A530; clear A530; replace H := Option.bind_eq_some_iff.mp H; obtain ⟨t137, A540, H⟩ := H; (try dsimp only at H); have A54 := Aside0.mk A540; clear A540; by_cases c55 : t137 = true; rotate_left
   ·replace c55 := Bool.eq_false_iff.mpr c55; subst c55; rw [if_neg (show ¬ (false = true) by decide)] at H; exact absurd H (by simp)
   subst c55; rw [if_pos rfl] at H; replace H := Option.bind_eq_some_iff.mp H; obtain ⟨t138, A560, H⟩ := H; (try dsimp only at H); have A56 := Aside0.mk A560; clear A560; replace H := Option.bind_eq_some_iff.mp H; obtain ⟨t141, A570, H⟩ := H; (try dsimp only at H); have A57 := Aside0.mk A570; clear A570; by_cases c58 : t141 = true; rotate_left
   ·replace c58 := Bool.eq_false_iff.mpr c58; subst c58; rw [if_neg (show ¬ (false = true) by decide)] at H; exact absurd H (by simp)
   subst c58; rw [if_pos rfl] at H; replace H := Option.bind_eq_some_iff.mp H; obtain ⟨t142, A590, H⟩ := H; (try dsimp only at H); have A59 := Aside0.mk A590; clear A590; replace H := Option.bind_eq_some_iff.mp H; obtain ⟨t145, A600, H⟩ := H; (try dsimp only at H); have A60 := Aside0.mk A600; clear A600; by_cases c61 : t145 = true; rotate_left
   ·replace c61 := Bool.eq_false_iff.mpr c61; subst c61; rw [if_neg (show ¬ (false = true) by decide)] at H; exact absurd H (by simp)
   subst c61; rw [if_pos rfl] at H; replace H := Option.bind_eq_some_iff.mp H; obtain ⟨⟨t146, t147⟩, A620, H⟩ := H; dsimp only at H; have A62 := Aside0.mk A620; clear A620; replace H := Option.bind_eq_some_iff.mp H; obtain ⟨⟨t148, t149⟩, A630, H⟩ := H; dsimp only at H; have A63 := Aside0.mk A630; clear A630; replace H := Option.bind_eq_some_iff.mp H; obtain ⟨⟨t150, t151⟩, A640, H⟩ := H; dsimp only at H; have A64 := Aside0.mk A640; clear A640; have HC65 := Aside0.mk H; clear H; (try go_wp2); have n_ := zA8 (Kd.R_drew HO_10.out) (Kd.R_drew HO_13.out) (Kd.R_drew HO_14.out) (Kd.R_drew HO_15.out) (Kd.R_drew HO_122001.out) (blk_drew BK101.out) (blk_drew BK121.out) (below_drew1 HB.out); clear HO_10 HO_13 HO_14 HO_15 HO_122001 BK101 BK121 HB; obtain ⟨HO_10, HO_13, HO_14, HO_15, HO_122001, BK101, BK121, HB⟩ := n_; refine start_ (n := 5) (S := fun w' => w'.cell? ⟨gb121, 0, none⟩ = some (.int .i64 t117) ∧ w'.cell? ⟨gb121, 1, none⟩ = some (.slice Ao39 t118.length co39) ∧ w'.cell? ⟨gb101, 0, none⟩ = some (.int .i64 a0_0) ∧ w'.cell? ⟨gb101, 1, none⟩ = some (.slice A0_1 l0_1.length c0_1)) (ds := []) (zM 5 0) (by kernel_rfl) rfl rfl ⟨(blk_cell BK121.out 0).trans rfl, (blk_cell BK121.out 1).trans rfl, (blk_cell BK101.out 0).trans rfl, (blk_cell BK101.out 1).trans rfl⟩ (fun hHeld => ?_); generalize wc.drew = w66 at HO_10 HO_13 HO_14 HO_15 HO_122001 BK101 BK121 HB hHeld ⊢; refine take_ (i := 0) (N := some 67) (v := ?_) (a' := ?_) (zM 5 1) rfl rfl (by kernel_rfl) (fun _ _ _ h => h) (Or.inl ⟨by rfl, ?_⟩) hHeld ?_ ?_; rotate_left
   ·rintro w' ⟨s0, s1, s2, s3⟩; exact zzT
   rotate_left
   ·exact zzS
   refine take_ (i := 1) (N := some 68) (v := ?_) (a' := ?_) (zM 5 3) rfl rfl (by kernel_rfl) (fun _ _ _ h => h) (Or.inl ⟨by rfl, ?_⟩) hHeld ?_ ?_; rotate_left
   ·rintro w' ⟨s0, s1, s2, s3⟩; exact zzT
   rotate_left
   ·exact zzS
   refine one_ (i := 2) (N := some 69) (zM 5 7) rfl rfl (by kernel_rfl) (by decide) (fun K hK => ?_); refine goes_ Try.func25 (by kernel_rfl) rfl #[.agg #[.int .i64 a0_0, .slice A0_1 l0_1.length c0_1]] (by rfl) rfl rfl zz3 ?_; (with_reducible refine (laws_toGraph.calls kj21 a0_0 _ _ l0_1 t133 t134 _ ?side1 ?side2 A53.out).mono ?_); (case side1 => exact zz5); (case side2 => exact HC0_1.out); rintro e w67 ⟨v135, rfl, ho0, hb⟩; refine ⟨_, rfl, ?_⟩; have n_ := zA9 (Kd.R_below zz24 hb) (Kd.R_below zz46 hb) (Kd.R_below zz47 hb) (Kd.R_below zz25 hb) (Kd.R_elder' zz28 (Kd.R_base ho0) hb) (Kd.R_lower (Kd.R_new' ho0 (Kd.R_lt zz28)) (below_size zz9)) (blk_below (g := gb101) (o := .cells #[.int .i64 a0_0, .slice A0_1 l0_1.length c0_1] 44 (0, 0)) zz2 hb) (blk_below (g := gb121) (o := .cells #[.int .i64 t117, .slice Ao39 t118.length co39] 25 (0, 0)) zz21 hb) (below_step zz9 hb); clear HO_10 HO_13 HO_14 HO_15 HO_122001 BK101 BK121 HB; obtain ⟨HO_10, HO_13, HO_14, HO_15, HO_122001, HO136, BK101, BK121, HB⟩ := n_; clear ho0 hb; obtain ⟨Ao68, co68, eo68⟩ := Kd.R_slice HO136.out; (first | subst eo68 | (injection eo68 with f1_ f2_ f3_; have f4_ := f1_.symm; have f5_ := f3_.symm; clear f1_ f2_ f3_; subst f4_; subst f5_)); refine hK.out _ _ ⟨(blk_cell BK121.out 0).trans rfl, (blk_cell BK121.out 1).trans rfl, (blk_cell BK101.out 0).trans rfl, (blk_cell BK101.out 1).trans rfl⟩ (fun hHeld => ?_); clear hK K; refine norm_ (a' := ?_) ?_ ?_; rotate_left
   ·show Act.put _ (some 69) _ = _; exact zzS
   refine one_ (i := 3) (N := some 70) (zM 5 15) rfl rfl (by kernel_rfl) (by decide) (fun K hK => ?_); refine goes_ Try.func28 (by kernel_rfl) rfl #[.agg #[.int .i64 t117, .slice Ao39 t118.length co39], .agg #[.int .i64 t133, .slice Ao68 t134.length co68]] (by rfl) rfl rfl zz3 ?_; (with_reducible refine (laws_eqGraph.calls kj21 t117 _ _ t118 t133 _ _ t134 true _ ?side1 ?side2 ?side3 ?side4 A54.out).mono ?_); (case side1 => repeat (first | exact (Kd.R_reads' HO_122001.out).2.2 | (with_reducible refine Kd.C_alloc ?_ _) | (with_reducible refine Kd.C_drewN ?_ _) | (with_reducible refine Kd.C_drew ?_))); (case side2 => exact (Kd.R_reads' HO_122001.out).2.1); (case side3 => repeat (first | exact (Kd.R_reads' HO136.out).2.2 | (with_reducible refine Kd.C_alloc ?_ _) | (with_reducible refine Kd.C_drewN ?_ _) | (with_reducible refine Kd.C_drew ?_))); (case side4 => exact (Kd.R_reads' HO136.out).2.1); rintro e w69 ⟨rfl, hb⟩; refine ⟨_, rfl, ?_⟩; have n_ := zA9 (Kd.R_below zz24 hb) (Kd.R_below zz46 hb) (Kd.R_below zz47 hb) (Kd.R_below zz25 hb) (Kd.R_below zz28 hb) (Kd.R_below (by (with_reducible repeat (first | apply Kd.R_alloc | apply Kd.R_drewN | apply Kd.R_drew)); exact HO136.out) hb) (blk_below (g := gb101) (o := .cells #[.int .i64 a0_0, .slice A0_1 l0_1.length c0_1] 44 (0, 0)) zz2 hb) (blk_below (g := gb121) (o := .cells #[.int .i64 t117, .slice Ao39 t118.length co39] 25 (0, 0)) zz21 hb) (below_step zz9 hb); clear HO_10 HO_13 HO_14 HO_15 HO_122001 HO136 BK101 BK121 HB; obtain ⟨HO_10, HO_13, HO_14, HO_15, HO_122001, HO136, BK101, BK121, HB⟩ := n_; clear hb; refine hK.out _ _ ⟨(blk_cell BK121.out 0).trans rfl, (blk_cell BK121.out 1).trans rfl, (blk_cell BK101.out 0).trans rfl, (blk_cell BK101.out 1).trans rfl⟩ (fun hHeld => ?_); clear hK K; refine norm_ (a' := ?_) ?_ ?_; rotate_left
   ·show Act.put _ (some 70) _ = _; exact zzS
   refine pure_ (i := 4) (N := some 71) (v := ?_) (a' := ?_) (zM 5 31) rfl rfl (by kernel_rfl) (fun _ _ _ h => h) (Or.inl ⟨by rfl, ?_⟩) ?_ ?_; rotate_left
   ·intro w'; exact zzT
   rotate_left
   ·exact zzS
   refine done_ (by kernel_rfl) ?_; (go_upto_region 26 with (first | ((with_reducible refine gate_callee (f := 26) rfl ?_); refine goesL_ (some 74) rfl rfl Try.func26 (by kernel_rfl) rfl #[.slice A1 l1.length c1] rfl zz3 ?_; (with_reducible refine (laws_toIntS.calls kj21 _ _ l1 t138 _ ?side1 ?side2 A56.out).mono ?_); (case side1 => exact zz10); (case side2 => exact HC1.out); rintro e w70 ⟨v139, rfl, ho0, hb⟩; refine ⟨_, rfl, ?_⟩; have n_ := zA10 (Kd.R_elder' zz24 (Kd.R_base ho0) hb) (Kd.R_elder' zz46 (Kd.R_base ho0) hb) (Kd.R_elder' zz47 (Kd.R_base ho0) hb) (Kd.R_elder' zz25 (Kd.R_base ho0) hb) (Kd.R_below zz28 hb) (Kd.R_below (by (with_reducible repeat (first | apply Kd.R_alloc | apply Kd.R_drewN | apply Kd.R_drew)); exact HO136.out) hb) (Kd.R_lower (Kd.R_new' (Kd.R_new' (Kd.R_new' (Kd.R_new' ho0 (Kd.R_lt zz24)) (Kd.R_lt zz46)) (Kd.R_lt zz47)) (Kd.R_lt zz25)) (below_size zz9)) (blk_below (g := gb101) (o := .cells #[.int .i64 a0_0, .slice A0_1 l0_1.length c0_1] 44 (0, 0)) zz2 hb) (blk_below (g := gb121) (o := .cells #[.int .i64 t117, .slice Ao39 t118.length co39] 25 (0, 0)) zz21 hb) (below_step zz9 hb); clear HO_10 HO_13 HO_14 HO_15 HO_122001 HO136 BK101 BK121 HB; obtain ⟨HO_10, HO_13, HO_14, HO_15, HO_122001, HO136, HO140, BK101, BK121, HB⟩ := n_; clear ho0 hb; obtain ⟨Ao71, co71, eo71⟩ := Kd.R_slice HO140.out; subst eo71) | ((with_reducible refine gate_callee (f := 27) rfl ?_); refine goesL_ (some 75) rfl rfl Try.func27 (by kernel_rfl) rfl #[.slice Ao43 t122.length co43, .slice Ao71 t138.length co71] rfl zz3 ?_; (with_reducible refine (laws_eqIntS.calls kj21 _ _ t122 _ _ t138 true _ ?side1 ?side2 ?side3 ?side4 A57.out).mono ?_); (case side1 => repeat (first | exact (Kd.R_reads' HO_13.out).2.2 | (with_reducible refine Kd.C_alloc ?_ _) | (with_reducible refine Kd.C_drewN ?_ _) | (with_reducible refine Kd.C_drew ?_))); (case side2 => exact (Kd.R_reads' HO_13.out).2.1); (case side3 => repeat (first | exact (Kd.R_reads' HO140.out).2.2 | (with_reducible refine Kd.C_alloc ?_ _) | (with_reducible refine Kd.C_drewN ?_ _) | (with_reducible refine Kd.C_drew ?_))); (case side4 => exact (Kd.R_reads' HO140.out).2.1); rintro e w' ⟨rfl, ⟨nd, rfl⟩⟩; refine ⟨_, rfl, ?_⟩) | ((with_reducible refine gate_callee (f := 26) rfl ?_); refine goesL_ (some 79) rfl rfl Try.func26 (by kernel_rfl) rfl #[.slice A2 l2.length c2] rfl zz3 ?_; (with_reducible refine (laws_toIntS.calls kj21 _ _ l2 t142 _ ?side1 ?side2 A59.out).mono ?_); (case side1 => repeat (first | exact (Kd.C_below HR2.out zz9) | (with_reducible refine Kd.C_alloc ?_ _) | (with_reducible refine Kd.C_drewN ?_ _) | (with_reducible refine Kd.C_drew ?_))); (case side2 => exact HC2.out); rintro e w72 ⟨v143, rfl, ho0, hb⟩; refine ⟨_, rfl, ?_⟩; have n_ := zA11 (Kd.R_elder' zz24 (Kd.R_base ho0) hb) (Kd.R_elder' zz46 (Kd.R_base ho0) hb) (Kd.R_elder' zz47 (Kd.R_base ho0) hb) (Kd.R_elder' zz25 (Kd.R_base ho0) hb) (Kd.R_below zz28 hb) (Kd.R_below (by (with_reducible repeat (first | apply Kd.R_alloc | apply Kd.R_drewN | apply Kd.R_drew)); exact HO136.out) hb) (Kd.R_elder' (by (with_reducible repeat (first | apply Kd.R_alloc | apply Kd.R_drewN | apply Kd.R_drew)); exact HO140.out) (Kd.R_base ho0) hb) (Kd.R_lower (Kd.R_new' (Kd.R_new' (Kd.R_new' (Kd.R_new' (Kd.R_new' ho0 (Kd.R_lt zz24)) (Kd.R_lt zz46)) (Kd.R_lt zz47)) (Kd.R_lt zz25)) (Kd.R_lt (by (with_reducible repeat (first | apply Kd.R_alloc | apply Kd.R_drewN | apply Kd.R_drew)); exact HO140.out))) (below_size zz9)) (blk_below (g := gb101) (o := .cells #[.int .i64 a0_0, .slice A0_1 l0_1.length c0_1] 44 (0, 0)) zz2 hb) (blk_below (g := gb121) (o := .cells #[.int .i64 t117, .slice Ao39 t118.length co39] 25 (0, 0)) zz21 hb) (below_step zz9 hb); clear HO_10 HO_13 HO_14 HO_15 HO_122001 HO136 HO140 BK101 BK121 HB; obtain ⟨HO_10, HO_13, HO_14, HO_15, HO_122001, HO136, HO140, HO144, BK101, BK121, HB⟩ := n_; clear ho0 hb; obtain ⟨Ao73, co73, eo73⟩ := Kd.R_slice HO144.out; subst eo73) | ((with_reducible refine gate_callee (f := 27) rfl ?_); refine goesL_ (some 80) rfl rfl Try.func27 (by kernel_rfl) rfl #[.slice Ao44 t125.length co44, .slice Ao73 t142.length co73] rfl zz3 ?_; (with_reducible refine (laws_eqIntS.calls kj21 _ _ t125 _ _ t142 true _ ?side1 ?side2 ?side3 ?side4 A60.out).mono ?_); (case side1 => repeat (first | exact (Kd.R_reads' HO_14.out).2.2 | (with_reducible refine Kd.C_alloc ?_ _) | (with_reducible refine Kd.C_drewN ?_ _) | (with_reducible refine Kd.C_drew ?_))); (case side2 => exact (Kd.R_reads' HO_14.out).2.1); (case side3 => repeat (first | exact (Kd.R_reads' HO144.out).2.2 | (with_reducible refine Kd.C_alloc ?_ _) | (with_reducible refine Kd.C_drewN ?_ _) | (with_reducible refine Kd.C_drew ?_))); (case side4 => exact (Kd.R_reads' HO144.out).2.1); rintro e w' ⟨rfl, ⟨nd, rfl⟩⟩; refine ⟨_, rfl, ?_⟩; have hnb74 := NB121_101.out; have hnc74 := NB101_121.out; have hcz75_0 := zC20 BK121; have hcz75_1 := zC21 BK121; have hfz75_0 := blk_frozen BK121.out 0; have hfz75_1 := blk_frozen BK121.out 1) | ((with_reducible refine gate_callee (f := 29) rfl ?_); refine goesL_ (some 84) rfl rfl Try.func29 (by kernel_rfl) rfl #[.agg #[.int .i64 t117, .slice Ao39 t118.length co39], .int .i64 1] rfl zz3 ?_; (with_reducible refine (laws_markGraph.calls kj21 t117 (fun k_ => some k_ = (.slice Ao39 t118.length co39 : Value).ownBlock) (.slice Ao39 t118.length co39) t118 1 t146 t147 w _ ?side1 ?side2 A62.out).mono ?_); (case side1 => exact zz9); (case side2 => exact Kd.R_tight rfl HO_122001.out); rintro e w76 ⟨rfl, hy0, hb, hkp⟩; refine ⟨_, rfl, ?_⟩; have n_ := zA11 (Kd.R_mono (ok' := fun k_ => some k_ ≠ (.slice Ao43 t122.length co43 : Value).ownBlock ∧ some k_ ≠ (.slice Ao44 t125.length co44 : Value).ownBlock ∧ some k_ ≠ (v129 : Value).ownBlock ∧ some k_ ≠ (.slice Ao71 t138.length co71 : Value).ownBlock ∧ some k_ ≠ (.slice Ao73 t142.length co73 : Value).ownBlock) (Kd.R_keptB ((Kd.R_apart' HO_10.out (Kd.R_typed HO_122001.out) (by decide))) hkp (fun k_ hk_ hs_ => (hk_.2) hs_)) (fun k_ hk_ => ⟨hk_.1.1.1.1.1, hk_.1.1.1.1.2.1, hk_.1.1.1.1.2.2, hk_.1.1.1.2, hk_.1.1.2⟩)) (Kd.R_mono (ok' := fun k_ => some k_ ≠ (v114 : Value).ownBlock ∧ some k_ ≠ (.slice Ao44 t125.length co44 : Value).ownBlock ∧ some k_ ≠ (v129 : Value).ownBlock ∧ some k_ ≠ (.slice Ao71 t138.length co71 : Value).ownBlock ∧ some k_ ≠ (.slice Ao73 t142.length co73 : Value).ownBlock) (Kd.R_keptB ((Kd.R_apart' HO_13.out (Kd.R_typed HO_122001.out) (by decide))) hkp (fun k_ hk_ hs_ => (hk_.2) hs_)) (fun k_ hk_ => ⟨hk_.1.1.1.1.1, hk_.1.1.1.1.2.1, hk_.1.1.1.1.2.2, hk_.1.1.1.2, hk_.1.1.2⟩)) (Kd.R_mono (ok' := fun k_ => some k_ ≠ (v114 : Value).ownBlock ∧ some k_ ≠ (.slice Ao43 t122.length co43 : Value).ownBlock ∧ some k_ ≠ (v129 : Value).ownBlock ∧ some k_ ≠ (.slice Ao71 t138.length co71 : Value).ownBlock ∧ some k_ ≠ (.slice Ao73 t142.length co73 : Value).ownBlock) (Kd.R_keptB ((Kd.R_apart' HO_14.out (Kd.R_typed HO_122001.out) (by decide))) hkp (fun k_ hk_ hs_ => (hk_.2) hs_)) (fun k_ hk_ => ⟨hk_.1.1.1.1.1, hk_.1.1.1.1.2.1, hk_.1.1.1.1.2.2, hk_.1.1.1.2, hk_.1.1.2⟩)) (Kd.R_mono (ok' := fun k_ => some k_ ≠ (v114 : Value).ownBlock ∧ some k_ ≠ (.slice Ao43 t122.length co43 : Value).ownBlock ∧ some k_ ≠ (.slice Ao44 t125.length co44 : Value).ownBlock ∧ some k_ ≠ (.slice Ao71 t138.length co71 : Value).ownBlock ∧ some k_ ≠ (.slice Ao73 t142.length co73 : Value).ownBlock) (Kd.R_keptB ((Kd.R_apart' HO_15.out (Kd.R_typed HO_122001.out) (by decide))) hkp (fun k_ hk_ hs_ => (hk_.2) hs_)) (fun k_ hk_ => ⟨hk_.1.1.1.1.1, hk_.1.1.1.1.2.1, hk_.1.1.1.1.2.2, hk_.1.1.1.2, hk_.1.1.2⟩)) (Kd.R_reok rfl hy0 (fun k_ e_ => HO_122001.out.1 k_ e_)) (blk_kept zz2 hkp (fun hs_ => (fun e_ => (Kd.R_ne HO_122001.out BK101.out (by decide)) e_) hs_)) (blk_kept zz21 hkp (fun hs_ => (fun e_ => (Kd.R_ne HO_122001.out BK121.out (by decide)) e_) hs_)) (Kd.R_mono (ok' := fun k_ => some k_ ≠ (.slice Ao39 t118.length co39 : Value).ownBlock) (Kd.R_keptB (HO136.out) hkp (fun k_ hk_ hs_ => (hk_.2) hs_)) (fun k_ hk_ => hk_.1.2)) (Kd.R_mono (ok' := fun k_ => some k_ ≠ (v114 : Value).ownBlock ∧ some k_ ≠ (.slice Ao43 t122.length co43 : Value).ownBlock ∧ some k_ ≠ (.slice Ao44 t125.length co44 : Value).ownBlock ∧ some k_ ≠ (v129 : Value).ownBlock ∧ some k_ ≠ (.slice Ao73 t142.length co73 : Value).ownBlock) (Kd.R_keptB ((Kd.R_apart' HO140.out (Kd.R_typed HO_122001.out) (by decide))) hkp (fun k_ hk_ hs_ => (hk_.2) hs_)) (fun k_ hk_ => ⟨hk_.1.1.1.1.1.1.2, hk_.1.1.1.1.1.2, hk_.1.1.1.1.2, hk_.1.1.1.2, hk_.1.1.2⟩)) (Kd.R_mono (ok' := fun k_ => some k_ ≠ (v114 : Value).ownBlock ∧ some k_ ≠ (.slice Ao43 t122.length co43 : Value).ownBlock ∧ some k_ ≠ (.slice Ao44 t125.length co44 : Value).ownBlock ∧ some k_ ≠ (v129 : Value).ownBlock ∧ some k_ ≠ (.slice Ao71 t138.length co71 : Value).ownBlock) (Kd.R_keptB ((Kd.R_apart' HO144.out (Kd.R_typed HO_122001.out) (by decide))) hkp (fun k_ hk_ hs_ => (hk_.2) hs_)) (fun k_ hk_ => ⟨hk_.1.1.1.1.1.1.2, hk_.1.1.1.1.1.2, hk_.1.1.1.1.2, hk_.1.1.1.2, hk_.1.1.2⟩)) hb; clear HO_10 HO_13 HO_14 HO_15 HO_122001 BK101 BK121 HO136 HO140 HO144 HB; obtain ⟨HO_10, HO_13, HO_14, HO_15, HO_122001, BK101, BK121, HO136, HO140, HO144, HB⟩ := n_; clear hy0 hb hkp) | ((with_reducible refine gate_callee (f := 30) rfl ?_); refine goesL_ (some 87) rfl rfl Try.func30 (by kernel_rfl) rfl #[.slice Ao43 t122.length co43, .int .i64 t146] rfl zz3 ?_; (with_reducible refine (laws_markIntS.calls kj21 (fun k_ => some k_ = (.slice Ao43 t122.length co43 : Value).ownBlock) (.slice Ao43 t122.length co43) t122 t146 t148 t149 w _ ?side1 ?side2 A63.out).mono ?_); (case side1 => exact zz9); (case side2 => exact Kd.R_tight rfl HO_13.out); rintro e w77 ⟨rfl, hy0, hb, hkp⟩; refine ⟨_, rfl, ?_⟩; have n_ := zA11 (Kd.R_mono (ok' := fun k_ => some k_ ≠ (.slice Ao43 t122.length co43 : Value).ownBlock ∧ some k_ ≠ (.slice Ao44 t125.length co44 : Value).ownBlock ∧ some k_ ≠ (v129 : Value).ownBlock ∧ some k_ ≠ (.slice Ao71 t138.length co71 : Value).ownBlock ∧ some k_ ≠ (.slice Ao73 t142.length co73 : Value).ownBlock) (Kd.R_keptB (HO_10.out) hkp (fun k_ hk_ hs_ => (hk_.1) hs_)) (fun k_ hk_ => ⟨hk_.1.1, hk_.1.2.1, hk_.1.2.2.1, hk_.1.2.2.2.1, hk_.1.2.2.2.2⟩)) (Kd.R_reok rfl hy0 (fun k_ e_ => HO_13.out.1 k_ e_)) (Kd.R_mono (ok' := fun k_ => some k_ ≠ (v114 : Value).ownBlock ∧ some k_ ≠ (.slice Ao43 t122.length co43 : Value).ownBlock ∧ some k_ ≠ (v129 : Value).ownBlock ∧ some k_ ≠ (.slice Ao71 t138.length co71 : Value).ownBlock ∧ some k_ ≠ (.slice Ao73 t142.length co73 : Value).ownBlock) (Kd.R_keptB (HO_14.out) hkp (fun k_ hk_ hs_ => (hk_.2.1) hs_)) (fun k_ hk_ => ⟨hk_.1.1, hk_.1.2.1, hk_.1.2.2.1, hk_.1.2.2.2.1, hk_.1.2.2.2.2⟩)) (Kd.R_mono (ok' := fun k_ => some k_ ≠ (v114 : Value).ownBlock ∧ some k_ ≠ (.slice Ao43 t122.length co43 : Value).ownBlock ∧ some k_ ≠ (.slice Ao44 t125.length co44 : Value).ownBlock ∧ some k_ ≠ (.slice Ao71 t138.length co71 : Value).ownBlock ∧ some k_ ≠ (.slice Ao73 t142.length co73 : Value).ownBlock) (Kd.R_keptB (HO_15.out) hkp (fun k_ hk_ hs_ => (hk_.2.1) hs_)) (fun k_ hk_ => ⟨hk_.1.1, hk_.1.2.1, hk_.1.2.2.1, hk_.1.2.2.2.1, hk_.1.2.2.2.2⟩)) (Kd.R_mono (ok' := fun k_ => some k_ ≠ (.slice Ao68 t134.length co68 : Value).ownBlock) (Kd.R_keptB ((Kd.R_apart' HO_122001.out (Kd.R_typed HO_13.out) (by decide))) hkp (fun k_ hk_ hs_ => (hk_.2) hs_)) (fun k_ hk_ => hk_.1.1.2)) (blk_kept zz2 hkp (fun hs_ => (fun e_ => (Kd.R_ne HO_13.out BK101.out (by decide)) e_) hs_)) (blk_kept zz21 hkp (fun hs_ => (fun e_ => (Kd.R_ne HO_13.out BK121.out (by decide)) e_) hs_)) (Kd.R_mono (ok' := fun k_ => some k_ ≠ (.slice Ao39 t118.length co39 : Value).ownBlock) (Kd.R_keptB ((Kd.R_apart' HO136.out (Kd.R_typed HO_13.out) (by decide))) hkp (fun k_ hk_ hs_ => (hk_.2) hs_)) (fun k_ hk_ => hk_.1.1)) (Kd.R_mono (ok' := fun k_ => some k_ ≠ (v114 : Value).ownBlock ∧ some k_ ≠ (.slice Ao43 t122.length co43 : Value).ownBlock ∧ some k_ ≠ (.slice Ao44 t125.length co44 : Value).ownBlock ∧ some k_ ≠ (v129 : Value).ownBlock ∧ some k_ ≠ (.slice Ao73 t142.length co73 : Value).ownBlock) (Kd.R_keptB (HO140.out) hkp (fun k_ hk_ hs_ => (hk_.2.1) hs_)) (fun k_ hk_ => ⟨hk_.1.1, hk_.1.2.1, hk_.1.2.2.1, hk_.1.2.2.2.1, hk_.1.2.2.2.2⟩)) (Kd.R_mono (ok' := fun k_ => some k_ ≠ (v114 : Value).ownBlock ∧ some k_ ≠ (.slice Ao43 t122.length co43 : Value).ownBlock ∧ some k_ ≠ (.slice Ao44 t125.length co44 : Value).ownBlock ∧ some k_ ≠ (v129 : Value).ownBlock ∧ some k_ ≠ (.slice Ao71 t138.length co71 : Value).ownBlock) (Kd.R_keptB (HO144.out) hkp (fun k_ hk_ hs_ => (hk_.2.1) hs_)) (fun k_ hk_ => ⟨hk_.1.1, hk_.1.2.1, hk_.1.2.2.1, hk_.1.2.2.2.1, hk_.1.2.2.2.2⟩)) hb; clear HO_10 HO_13 HO_14 HO_15 HO_122001 BK101 BK121 HO136 HO140 HO144 HB; obtain ⟨HO_10, HO_13, HO_14, HO_15, HO_122001, BK101, BK121, HO136, HO140, HO144, HB⟩ := n_; clear hy0 hb hkp) | ((with_reducible refine gate_callee (f := 30) rfl ?_); refine goesL_ (some 90) rfl rfl Try.func30 (by kernel_rfl) rfl #[.slice Ao44 t125.length co44, .int .i64 t148] rfl zz3 ?_; (with_reducible refine (laws_markIntS.calls kj21 (fun k_ => some k_ = (.slice Ao44 t125.length co44 : Value).ownBlock) (.slice Ao44 t125.length co44) t125 t148 t150 t151 w _ ?side1 ?side2 A64.out).mono ?_); (case side1 => exact zz9); (case side2 => exact Kd.R_tight rfl HO_14.out); rintro e w78 ⟨rfl, hy0, hb, hkp⟩; refine ⟨_, rfl, ?_⟩; have n_ := zA11 (Kd.R_mono (ok' := fun k_ => some k_ ≠ (.slice Ao43 t122.length co43 : Value).ownBlock ∧ some k_ ≠ (.slice Ao44 t125.length co44 : Value).ownBlock ∧ some k_ ≠ (v129 : Value).ownBlock ∧ some k_ ≠ (.slice Ao71 t138.length co71 : Value).ownBlock ∧ some k_ ≠ (.slice Ao73 t142.length co73 : Value).ownBlock) (Kd.R_keptB (HO_10.out) hkp (fun k_ hk_ hs_ => (hk_.2.1) hs_)) (fun k_ hk_ => ⟨hk_.1.1, hk_.1.2.1, hk_.1.2.2.1, hk_.1.2.2.2.1, hk_.1.2.2.2.2⟩)) (Kd.R_mono (ok' := fun k_ => some k_ ≠ (v114 : Value).ownBlock ∧ some k_ ≠ (.slice Ao44 t125.length co44 : Value).ownBlock ∧ some k_ ≠ (v129 : Value).ownBlock ∧ some k_ ≠ (.slice Ao71 t138.length co71 : Value).ownBlock ∧ some k_ ≠ (.slice Ao73 t142.length co73 : Value).ownBlock) (Kd.R_keptB (HO_13.out) hkp (fun k_ hk_ hs_ => (hk_.2.1) hs_)) (fun k_ hk_ => ⟨hk_.1.1, hk_.1.2.1, hk_.1.2.2.1, hk_.1.2.2.2.1, hk_.1.2.2.2.2⟩)) (Kd.R_reok rfl hy0 (fun k_ e_ => HO_14.out.1 k_ e_)) (Kd.R_mono (ok' := fun k_ => some k_ ≠ (v114 : Value).ownBlock ∧ some k_ ≠ (.slice Ao43 t122.length co43 : Value).ownBlock ∧ some k_ ≠ (.slice Ao44 t125.length co44 : Value).ownBlock ∧ some k_ ≠ (.slice Ao71 t138.length co71 : Value).ownBlock ∧ some k_ ≠ (.slice Ao73 t142.length co73 : Value).ownBlock) (Kd.R_keptB (HO_15.out) hkp (fun k_ hk_ hs_ => (hk_.2.2.1) hs_)) (fun k_ hk_ => ⟨hk_.1.1, hk_.1.2.1, hk_.1.2.2.1, hk_.1.2.2.2.1, hk_.1.2.2.2.2⟩)) (Kd.R_mono (ok' := fun k_ => some k_ ≠ (.slice Ao68 t134.length co68 : Value).ownBlock) (Kd.R_keptB ((Kd.R_apart' HO_122001.out (Kd.R_typed HO_14.out) (by decide))) hkp (fun k_ hk_ hs_ => (hk_.2) hs_)) (fun k_ hk_ => hk_.1.1)) (blk_kept zz2 hkp (fun hs_ => (fun e_ => (Kd.R_ne HO_14.out BK101.out (by decide)) e_) hs_)) (blk_kept zz21 hkp (fun hs_ => (fun e_ => (Kd.R_ne HO_14.out BK121.out (by decide)) e_) hs_)) (Kd.R_mono (ok' := fun k_ => some k_ ≠ (.slice Ao39 t118.length co39 : Value).ownBlock) (Kd.R_keptB ((Kd.R_apart' HO136.out (Kd.R_typed HO_14.out) (by decide))) hkp (fun k_ hk_ hs_ => (hk_.2) hs_)) (fun k_ hk_ => hk_.1.1)) (Kd.R_mono (ok' := fun k_ => some k_ ≠ (v114 : Value).ownBlock ∧ some k_ ≠ (.slice Ao43 t122.length co43 : Value).ownBlock ∧ some k_ ≠ (.slice Ao44 t125.length co44 : Value).ownBlock ∧ some k_ ≠ (v129 : Value).ownBlock ∧ some k_ ≠ (.slice Ao73 t142.length co73 : Value).ownBlock) (Kd.R_keptB (HO140.out) hkp (fun k_ hk_ hs_ => (hk_.2.2.1) hs_)) (fun k_ hk_ => ⟨hk_.1.1, hk_.1.2.1, hk_.1.2.2.1, hk_.1.2.2.2.1, hk_.1.2.2.2.2⟩)) (Kd.R_mono (ok' := fun k_ => some k_ ≠ (v114 : Value).ownBlock ∧ some k_ ≠ (.slice Ao43 t122.length co43 : Value).ownBlock ∧ some k_ ≠ (.slice Ao44 t125.length co44 : Value).ownBlock ∧ some k_ ≠ (v129 : Value).ownBlock ∧ some k_ ≠ (.slice Ao71 t138.length co71 : Value).ownBlock) (Kd.R_keptB (HO144.out) hkp (fun k_ hk_ hs_ => (hk_.2.2.1) hs_)) (fun k_ hk_ => ⟨hk_.1.1, hk_.1.2.1, hk_.1.2.2.1, hk_.1.2.2.2.1, hk_.1.2.2.2.2⟩)) hb; clear HO_10 HO_13 HO_14 HO_15 HO_122001 BK101 BK121 HO136 HO140 HO144 HB; obtain ⟨HO_10, HO_13, HO_14, HO_15, HO_122001, BK101, BK121, HO136, HO140, HO144, HB⟩ := n_; clear hy0 hb hkp))); (try simp only [Act.put, List.setIfInBounds_toArray, List.set_cons_zero, List.set_cons_succ]); go_cut [103] (fun v103 wc => ∃ (kq : Nat) (x103_64 : Bool), v103 = .bool x103_64 ∧ Aside0 (laws_FnExactSumOfPiles.j1 kq l1 l2 a3 t113 t116 t128 x103_64 a0_0 l0_1 = some r) ∧ Aside0 (kq ≤ kj21) ∧ Aside0 (Kd.R (Kd.int .i64) 3 wc w.heap.size (fun k_ => some k_ ≠ (v129 : Value).ownBlock) v114 t113) ∧ Aside0 (Kd.R (Kd.int .i64) 3 wc w.heap.size (fun k_ => some k_ ≠ (v114 : Value).ownBlock) v129 t128) ∧ Aside0 (Kd.R k83 83 wc w.heap.size (fun _ => True) (.slice Ao39 t118.length co39) t147) ∧ Aside0 (wc.heap[gb101]? = some (.cells #[.int .i64 a0_0, (.slice A0_1 l0_1.length c0_1)] 44 (0, 0))) ∧ Aside0 (wc.heap[gb121]? = some (.cells #[.int .i64 t117, (.slice Ao39 t118.length co39)] 25 (0, 0))) ∧ Aside0 (Below w.heap.size w wc))
   case first =>
    have H := HC65.out; clear HC65; by_cases c79 : t150 < 0
    ·rw [if_pos c79] at H; have c79b0 := decide_eq_true c79; clear c79; (first | rw [c79b0] | (simp only [i64_w, i32_w]; rw [c79b0]) | skip); have H' := Aside0.mk H; clear H; go_wp2; (go_meet); case rel => exact ⟨_, (true), zz8, H', ⟨by have := HJ21.out; first | omega | exact Nat.le_refl _⟩, ⟨by (with_reducible repeat (first | apply Kd.R_alloc | apply Kd.R_drewN | apply Kd.R_drew)); exact Kd.R_mono HO_10.out (fun _ hk => hk.2.2.1)⟩, ⟨by (with_reducible repeat (first | apply Kd.R_alloc | apply Kd.R_drewN | apply Kd.R_drew)); exact Kd.R_mono HO_15.out (fun _ hk => hk.1)⟩, ⟨by (with_reducible repeat (first | apply Kd.R_alloc | apply Kd.R_drewN | apply Kd.R_drew)); exact Kd.R_mono HO_122001.out (fun _ hk => trivial)⟩, ⟨zz2⟩, ⟨zz21⟩, ⟨zz9⟩⟩
    rw [if_neg c79] at H; have c79b0 := decide_eq_false c79; clear c79; (first | rw [c79b0] | (simp only [i64_w, i32_w]; rw [c79b0]) | skip); replace H := Option.bind_eq_some_iff.mp H; obtain ⟨t152, A800, H⟩ := H; (try dsimp only at H); have A80 := Aside0.mk A800; clear A800; by_cases c81 : t152 = true
    ·subst c81; rw [if_pos rfl] at H; have H' := Aside0.mk H; clear H; obtain ⟨Ao82, co82, eo82⟩ := Kd.R_slice HO_15.out; subst eo82; obtain ⟨Ao83, co83, eo83⟩ := Kd.R_slice HO_10.out; subst eo83; (go_wp2_with (first | (go_at_call 27; (with_reducible refine (laws_eqIntS.calls kj21 _ _ t128 _ _ t113 true _ ?side1 ?side2 ?side3 ?side4 A80.out).mono ?_); (case side1 => exact zz52); (case side2 => exact (Kd.R_reads' HO_15.out).2.1); (case side3 => exact zz53); (case side4 => exact (Kd.R_reads' HO_10.out).2.1); rintro e w' ⟨rfl, ⟨nd, rfl⟩⟩))); (go_meet); case rel => exact ⟨_, ((t131 != t116)), zz8, H', ⟨by have := HJ21.out; first | omega | exact Nat.le_refl _⟩, ⟨by (with_reducible repeat (first | apply Kd.R_alloc | apply Kd.R_drewN | apply Kd.R_drew)); exact Kd.R_mono HO_10.out (fun _ hk => hk.2.2.1)⟩, ⟨by (with_reducible repeat (first | apply Kd.R_alloc | apply Kd.R_drewN | apply Kd.R_drew)); exact Kd.R_mono HO_15.out (fun _ hk => hk.1)⟩, ⟨by (with_reducible repeat (first | apply Kd.R_alloc | apply Kd.R_drewN | apply Kd.R_drew)); exact Kd.R_mono HO_122001.out (fun _ hk => trivial)⟩, ⟨zz2⟩, ⟨zz21⟩, ⟨zz9⟩⟩
    replace c81 := Bool.eq_false_iff.mpr c81; subst c81; rw [if_neg (show ¬ (false = true) by decide)] at H; have H' := Aside0.mk H; clear H; obtain ⟨Ao84, co84, eo84⟩ := Kd.R_slice HO_15.out; subst eo84; obtain ⟨Ao85, co85, eo85⟩ := Kd.R_slice HO_10.out; subst eo85; (go_wp2_with (first | (go_at_call 27; (with_reducible refine (laws_eqIntS.calls kj21 _ _ t128 _ _ t113 false _ ?side1 ?side2 ?side3 ?side4 A80.out).mono ?_); (case side1 => exact zz52); (case side2 => exact (Kd.R_reads' HO_15.out).2.1); (case side3 => exact zz53); (case side4 => exact (Kd.R_reads' HO_10.out).2.1); rintro e w' ⟨rfl, ⟨nd, rfl⟩⟩))); (go_meet); case rel => exact ⟨_, (true), zz8, H', ⟨by have := HJ21.out; first | omega | exact Nat.le_refl _⟩, ⟨by (with_reducible repeat (first | apply Kd.R_alloc | apply Kd.R_drewN | apply Kd.R_drew)); exact Kd.R_mono HO_10.out (fun _ hk => hk.2.2.1)⟩, ⟨by (with_reducible repeat (first | apply Kd.R_alloc | apply Kd.R_drewN | apply Kd.R_drew)); exact Kd.R_mono HO_15.out (fun _ hk => hk.1)⟩, ⟨by (with_reducible repeat (first | apply Kd.R_alloc | apply Kd.R_drewN | apply Kd.R_drew)); exact Kd.R_mono HO_122001.out (fun _ hk => trivial)⟩, ⟨zz2⟩, ⟨zz21⟩, ⟨zz9⟩⟩
   case rest =>
    clear HC65; (try clear c1); (try clear c2); (try clear p2); (try clear c3); (try clear c4); (try clear c5); (try clear c5b0); (try clear c5b1); (try clear c6); (try clear c7); (try clear c7b0); (try clear c7b1); (try clear c8); (try clear c10); (try clear c10b0); (try clear c15); (try clear c23); (try clear c24); (try clear c25); (try clear c26); (try clear c27); (try clear c28); (try clear c29); (try clear c30); (try clear c37); (try clear c47); (try clear c52); (try clear c55); (try clear c58); (try clear c61); (try clear c74); (try clear c79); (try clear c79b0); (try clear c81); (try clear hcz12_0); (try clear hcz12_1); (try clear hcz24_0); (try clear hcz24_1); (try clear hcz26_0); (try clear hcz26_1); (try clear hcz34_0); (try clear hcz34_1); (try clear hcz38_0); (try clear hcz38_1); (try clear hcz42_0); (try clear hcz42_1); (try clear hcz75_0); (try clear hcz75_1); (try clear hfz12_0); (try clear hfz12_1); (try clear hfz24_0); (try clear hfz24_1); (try clear hfz26_0); (try clear hfz26_1); (try clear hfz34_0); (try clear hfz34_1); (try clear hfz38_0); (try clear hfz38_1); (try clear hfz42_0); (try clear hfz42_1); (try clear hfz75_0); (try clear hfz75_1); (try clear p2); obtain ⟨kq, x103_64, rfl, HA, HJ64, HO_10, HO_15, HO_122001, BK101, BK121, HB⟩ := hcut; have hl122001_64 := (Kd.R_reads' HO_122001.out).1; rw [hl122001_64] at HO_122001; (try simp only [hl122001_64]); (try simp only [hl122001_64] at BK101); (try simp only [hl122001_64] at BK121); (try simp only [hl122001_64] at HO_10); (try simp only [hl122001_64] at HO_15)
    cases kq with
    | zero => exact absurd HA.out (by simp [laws_FnExactSumOfPiles.j1])
    | succ kj64 =>
     have H := HA.out; clear HA; simp only [laws_FnExactSumOfPiles.j1] at H; by_cases c86 : x103_64 = true
     ·subst c86; rw [if_pos rfl] at H; exact absurd H (by simp)
     replace c86 := Bool.eq_false_iff.mpr c86; subst c86; rw [if_neg (show ¬ (false = true) by decide)] at H; replace H := Option.bind_eq_some_iff.mp H; obtain ⟨⟨t153, t154⟩, A870, H⟩ := H; dsimp only at H; have A87 := Aside0.mk A870; clear A870; replace H := Option.bind_eq_some_iff.mp H; obtain ⟨t155, A880, H⟩ := H; (try dsimp only at H); have A88 := Aside0.mk A880; clear A880; by_cases c89 : t155 < 0
     ·rw [if_pos c89] at H; exact absurd H (by simp)
     rw [if_neg c89] at H; have c89b0 := decide_eq_false c89; clear c89; by_cases c90 : t155 = t153; rotate_left
     ·rw [if_neg c90] at H; exact absurd H (by simp)
     rw [if_pos c90] at H; have c90b0 : (t155 == t153) = true := beq_iff_eq.mpr c90; have c90b1 : (t155 != t153) = false := bne_eq_false_iff_eq.mpr c90; clear c90; replace H := Option.bind_eq_some_iff.mp H; obtain ⟨⟨t156, t157⟩, A910, H⟩ := H; dsimp only at H; have A91 := Aside0.mk A910; clear A910; replace H := Option.bind_eq_some_iff.mp H; obtain ⟨t160, A920, H⟩ := H; (try dsimp only at H); have A92 := Aside0.mk A920; clear A920; replace H := Option.bind_eq_some_iff.mp H; obtain ⟨t163, A930, H⟩ := H; (try dsimp only at H); have A93 := Aside0.mk A930; clear A930; replace H := Option.bind_eq_some_iff.mp H; obtain ⟨⟨t166, t169⟩, A940, H⟩ := H; dsimp only at H; have A94 := Aside0.mk A940; clear A940; have HC95 := Aside0.mk H; clear H; obtain ⟨Ao96, co96, eo96⟩ := Kd.R_slice HO_15.out; subst eo96; (go_upto_region 37 with (first | ((with_reducible refine gate_callee (f := 30) rfl ?_); refine goesL_ (some 106) rfl rfl Try.func30 (by kernel_rfl) rfl #[.slice Ao96 t128.length co96, .int .i64 1] rfl zz3 ?_; (with_reducible refine (laws_markIntS.calls kj64 (fun k_ => some k_ = (.slice Ao96 t128.length co96 : Value).ownBlock) (.slice Ao96 t128.length co96) t128 1 t153 t154 w _ ?side1 ?side2 A87.out).mono ?_); (case side1 => exact zz9); (case side2 => exact Kd.R_tight rfl HO_15.out); rintro e w97 ⟨rfl, hy0, hb, hkp⟩; refine ⟨_, rfl, ?_⟩; have n_ := zA6 (Kd.R_mono (ok' := fun k_ => some k_ ≠ (.slice Ao96 t128.length co96 : Value).ownBlock) (Kd.R_keptB (HO_10.out) hkp (fun k_ hk_ hs_ => (hk_) hs_)) (fun k_ hk_ => hk_.1)) (Kd.R_reok rfl hy0 (fun k_ e_ => HO_15.out.1 k_ e_)) (Kd.R_mono (ok' := fun k_ => True) (Kd.R_keptB ((Kd.R_apart' HO_122001.out (Kd.R_typed HO_15.out) (by decide))) hkp (fun k_ hk_ hs_ => (hk_.2) hs_)) (fun k_ hk_ => trivial)) (blk_kept zz2 hkp (fun hs_ => (fun e_ => (Kd.R_ne HO_15.out BK101.out (by decide)) e_) hs_)) (blk_kept zz21 hkp (fun hs_ => (fun e_ => (Kd.R_ne HO_15.out BK121.out (by decide)) e_) hs_)) hb; clear HO_10 HO_15 HO_122001 BK101 BK121 HB; obtain ⟨HO_10, HO_15, HO_122001, BK101, BK121, HB⟩ := n_; clear hy0 hb hkp) | ((with_reducible refine gate_callee (f := 31) rfl ?_); refine goesL_ (some 109) rfl rfl Try.func31 (by kernel_rfl) rfl #[.slice Ao96 t154.length co96, .int .i64 1] rfl (by (try simp only [List.map_toArray, List.map_cons, List.map_nil]); first | done | (rw [show t154.length = t128.length from (Kd.R_reads' HO_15.out).1.symm] <;> rfl) | rfl | (simp only [List.length_drop, List.length_take]; rfl)) ?_; (with_reducible refine (laws_heldIntS.calls kj64 _ _ t154 1 t155 _ ?side1 ?side2 A88.out).mono ?_); (case side1 => exact zz52); (case side2 => rw [show t154.length = t128.length from (Kd.R_reads' HO_15.out).1.symm]; exact (Kd.R_reads' HO_15.out).2.1); rintro e w' ⟨rfl, ⟨nd, rfl⟩⟩; refine ⟨_, rfl, ?_⟩; have hnb98 := NB101_121.out; have hnc98 := NB121_101.out; have hcz99_0 := zC20 BK101; have hcz99_1 := zC21 BK101; have hfz99_0 := blk_frozen BK101.out 0; have hfz99_1 := blk_frozen BK101.out 1) | ((with_reducible refine gate_callee (f := 25) rfl ?_); refine goesL_ (some 117) rfl rfl Try.func25 (by kernel_rfl) rfl #[.agg #[.int .i64 a0_0, .slice A0_1 l0_1.length c0_1]] rfl zz3 ?_; (with_reducible refine (laws_toGraph.calls kj64 a0_0 _ _ l0_1 t156 t157 _ ?side1 ?side2 A91.out).mono ?_); (case side1 => repeat (first | exact (Kd.C_below HR0_1.out zz9) | (with_reducible refine Kd.C_alloc ?_ _) | (with_reducible refine Kd.C_drewN ?_ _) | (with_reducible refine Kd.C_drew ?_))); (case side2 => exact HC0_1.out); rintro e w100 ⟨v158, rfl, ho0, hb⟩; refine ⟨_, rfl, ?_⟩; have n_ := zA7 (Kd.R_below zz24 hb) (Kd.R_below zz25 hb) (Kd.R_elder' zz28 (Kd.R_base ho0) hb) (Kd.R_lower (Kd.R_new' ho0 (Kd.R_lt zz28)) (below_size zz9)) (blk_below (g := gb101) (o := .cells #[.int .i64 a0_0, .slice A0_1 l0_1.length c0_1] 44 (0, 0)) zz2 hb) (blk_below (g := gb121) (o := .cells #[.int .i64 t117, .slice Ao39 t147.length co39] 25 (0, 0)) zz21 hb) (below_step zz9 hb); clear HO_10 HO_15 HO_122001 BK101 BK121 HB; obtain ⟨HO_10, HO_15, HO_122001, HO159, BK101, BK121, HB⟩ := n_; clear ho0 hb) | ((with_reducible refine gate_callee (f := 26) rfl ?_); refine goesL_ (some 119) rfl rfl Try.func26 (by kernel_rfl) rfl #[.slice A1 l1.length c1] rfl zz3 ?_; (with_reducible refine (laws_toIntS.calls kj64 _ _ l1 t160 _ ?side1 ?side2 A92.out).mono ?_); (case side1 => exact zz10); (case side2 => exact HC1.out); rintro e w101 ⟨v161, rfl, ho0, hb⟩; refine ⟨_, rfl, ?_⟩; have n_ := zA8 (Kd.R_elder' zz24 (Kd.R_base ho0) hb) (Kd.R_elder' zz25 (Kd.R_base ho0) hb) (Kd.R_below zz28 hb) (Kd.R_below (by (with_reducible repeat (first | apply Kd.R_alloc | apply Kd.R_drewN | apply Kd.R_drew)); exact HO159.out) hb) (Kd.R_lower (Kd.R_new' (Kd.R_new' ho0 (Kd.R_lt zz24)) (Kd.R_lt zz25)) (below_size zz9)) (blk_below (g := gb101) (o := .cells #[.int .i64 a0_0, .slice A0_1 l0_1.length c0_1] 44 (0, 0)) zz2 hb) (blk_below (g := gb121) (o := .cells #[.int .i64 t117, .slice Ao39 t147.length co39] 25 (0, 0)) zz21 hb) (below_step zz9 hb); clear HO_10 HO_15 HO_122001 HO159 BK101 BK121 HB; obtain ⟨HO_10, HO_15, HO_122001, HO159, HO162, BK101, BK121, HB⟩ := n_; clear ho0 hb) | ((with_reducible refine gate_callee (f := 26) rfl ?_); refine goesL_ (some 121) rfl rfl Try.func26 (by kernel_rfl) rfl #[.slice A2 l2.length c2] rfl zz3 ?_; (with_reducible refine (laws_toIntS.calls kj64 _ _ l2 t163 _ ?side1 ?side2 A93.out).mono ?_); (case side1 => exact zz23); (case side2 => exact HC2.out); rintro e w102 ⟨v164, rfl, ho0, hb⟩; refine ⟨_, rfl, ?_⟩; have n_ := zA9 (Kd.R_elder' zz24 (Kd.R_base ho0) hb) (Kd.R_elder' zz25 (Kd.R_base ho0) hb) (Kd.R_below zz28 hb) (Kd.R_below (by (with_reducible repeat (first | apply Kd.R_alloc | apply Kd.R_drewN | apply Kd.R_drew)); exact HO159.out) hb) (Kd.R_elder' (by (with_reducible repeat (first | apply Kd.R_alloc | apply Kd.R_drewN | apply Kd.R_drew)); exact HO162.out) (Kd.R_base ho0) hb) (Kd.R_lower (Kd.R_new' (Kd.R_new' (Kd.R_new' ho0 (Kd.R_lt zz24)) (Kd.R_lt zz25)) (Kd.R_lt (by (with_reducible repeat (first | apply Kd.R_alloc | apply Kd.R_drewN | apply Kd.R_drew)); exact HO162.out))) (below_size zz9)) (blk_below (g := gb101) (o := .cells #[.int .i64 a0_0, .slice A0_1 l0_1.length c0_1] 44 (0, 0)) zz2 hb) (blk_below (g := gb121) (o := .cells #[.int .i64 t117, .slice Ao39 t147.length co39] 25 (0, 0)) zz21 hb) (below_step zz9 hb); clear HO_10 HO_15 HO_122001 HO159 HO162 BK101 BK121 HB; obtain ⟨HO_10, HO_15, HO_122001, HO159, HO162, HO165, BK101, BK121, HB⟩ := n_; clear ho0 hb; obtain ⟨Ao103, co103, eo103⟩ := Kd.R_slice HO159.out; subst eo103; obtain ⟨Ao104, co104, eo104⟩ := Kd.R_slice HO162.out; subst eo104; obtain ⟨Ao105, co105, eo105⟩ := Kd.R_slice HO165.out; subst eo105) | ((with_reducible refine gate_callee (f := 15) rfl ?_); refine goesL_ (some 123) rfl rfl Try.func15 (by kernel_rfl) rfl #[.agg #[.int .i64 t156, .slice Ao103 t157.length co103], .slice Ao104 t160.length co104, .slice Ao105 t163.length co105, .int .i64 a3] rfl zz3 ?_; (with_reducible refine (impl_SumOfPiles.calls kj64 t156 _ _ t157 _ _ t160 _ _ t163 a3 t166 t169 _ ?side1 ?side2 ?side3 ?side4 ?side5 ?side6 A94.out).mono ?_); (case side1 => repeat (first | exact (Kd.R_reads' HO159.out).2.2 | (with_reducible refine Kd.C_alloc ?_ _) | (with_reducible refine Kd.C_drewN ?_ _) | (with_reducible refine Kd.C_drew ?_))); (case side2 => exact (Kd.R_reads' HO159.out).2.1); (case side3 => repeat (first | exact (Kd.R_reads' HO162.out).2.2 | (with_reducible refine Kd.C_alloc ?_ _) | (with_reducible refine Kd.C_drewN ?_ _) | (with_reducible refine Kd.C_drew ?_))); (case side4 => exact (Kd.R_reads' HO162.out).2.1); (case side5 => repeat (first | exact (Kd.R_reads' HO165.out).2.2 | (with_reducible refine Kd.C_alloc ?_ _) | (with_reducible refine Kd.C_drewN ?_ _) | (with_reducible refine Kd.C_drew ?_))); (case side6 => exact (Kd.R_reads' HO165.out).2.1); rintro e w106 ⟨v167, rfl, ho0, hb⟩; refine ⟨_, rfl, ?_⟩; have n_ := zA10 (Kd.R_elder' zz24 (Kd.R_base ho0) hb) (Kd.R_elder' zz25 (Kd.R_base ho0) hb) (Kd.R_below zz28 hb) (Kd.R_below (by (with_reducible repeat (first | apply Kd.R_alloc | apply Kd.R_drewN | apply Kd.R_drew)); exact HO159.out) hb) (Kd.R_elder' (by (with_reducible repeat (first | apply Kd.R_alloc | apply Kd.R_drewN | apply Kd.R_drew)); exact HO162.out) (Kd.R_base ho0) hb) (Kd.R_elder' (by (with_reducible repeat (first | apply Kd.R_alloc | apply Kd.R_drewN | apply Kd.R_drew)); exact HO165.out) (Kd.R_base ho0) hb) (Kd.R_lower (Kd.R_new' (Kd.R_new' (Kd.R_new' (Kd.R_new' ho0 (Kd.R_lt zz24)) (Kd.R_lt zz25)) (Kd.R_lt (by (with_reducible repeat (first | apply Kd.R_alloc | apply Kd.R_drewN | apply Kd.R_drew)); exact HO162.out))) (Kd.R_lt (by (with_reducible repeat (first | apply Kd.R_alloc | apply Kd.R_drewN | apply Kd.R_drew)); exact HO165.out))) (below_size zz9)) (blk_below (g := gb101) (o := .cells #[.int .i64 a0_0, .slice A0_1 l0_1.length c0_1] 44 (0, 0)) zz2 hb) (blk_below (g := gb121) (o := .cells #[.int .i64 t117, .slice Ao39 t147.length co39] 25 (0, 0)) zz21 hb) (below_step zz9 hb); clear HO_10 HO_15 HO_122001 HO159 HO162 HO165 BK101 BK121 HB; obtain ⟨HO_10, HO_15, HO_122001, HO159, HO162, HO165, HO168, BK101, BK121, HB⟩ := n_; clear ho0 hb))); (try simp only [Act.put, List.setIfInBounds_toArray, List.set_cons_zero, List.set_cons_succ]); go_cut [134] (fun v134 wc => ∃ (kq : Nat) (x134_94 : Bool), v134 = .bool x134_94 ∧ Aside0 (laws_FnExactSumOfPiles.j2 kq t154 t153 x134_94 = some r) ∧ Aside0 (kq ≤ kj64) ∧ Aside0 (Kd.R (Kd.int .i64) 3 wc w.heap.size (fun _ => True) (.slice Ao96 t128.length co96) t154) ∧ Aside0 (Kd.R k83 83 wc w.heap.size (fun _ => True) (.slice Ao39 t147.length co39) t147) ∧ Aside0 (wc.heap[gb101]? = some (.cells #[.int .i64 a0_0, (.slice A0_1 l0_1.length c0_1)] 44 (0, 0))) ∧ Aside0 (wc.heap[gb121]? = some (.cells #[.int .i64 t117, (.slice Ao39 t147.length co39)] 25 (0, 0))) ∧ Aside0 (Below w.heap.size w wc))
     case first =>
      have H := HC95.out; clear HC95; replace H := Option.bind_eq_some_iff.mp H; obtain ⟨t170, A1070, H⟩ := H; (try dsimp only at H); have A107 := Aside0.mk A1070; clear A1070; by_cases c108 : t170 = true
      ·subst c108; rw [if_pos rfl] at H; have H' := Aside0.mk H; clear H; obtain ⟨Ao109, co109, eo109⟩ := Kd.R_slice HO168.out; subst eo109; obtain ⟨Ao110, co110, eo110⟩ := Kd.R_slice HO_10.out; subst eo110; (go_wp2_with (first | ((with_reducible refine gate_callee (f := 27) rfl ?_); refine goesL_ (some 128) rfl rfl Try.func27 (by kernel_rfl) rfl #[.slice Ao109 t166.length co109, .slice Ao110 t113.length co110] rfl zz3 ?_; (with_reducible refine (laws_eqIntS.calls kj64 _ _ t166 _ _ t113 true _ ?side1 ?side2 ?side3 ?side4 A107.out).mono ?_); (case side1 => repeat (first | exact (Kd.R_reads' HO168.out).2.2 | (with_reducible refine Kd.C_alloc ?_ _) | (with_reducible refine Kd.C_drewN ?_ _) | (with_reducible refine Kd.C_drew ?_))); (case side2 => exact (Kd.R_reads' HO168.out).2.1); (case side3 => exact zz53); (case side4 => exact (Kd.R_reads' HO_10.out).2.1); rintro e w' ⟨rfl, ⟨nd, rfl⟩⟩; refine ⟨_, rfl, ?_⟩))); (go_meet); case rel => exact ⟨_, ((t169 != t116)), zz8, H', ⟨by have := HJ21.out; have := HJ64.out; first | omega | exact Nat.le_refl _⟩, ⟨by (try simp only [hl122001_64]); (with_reducible repeat (first | apply Kd.R_alloc | apply Kd.R_drewN | apply Kd.R_drew)); exact Kd.R_mono HO_15.out (fun _ hk => trivial)⟩, ⟨by (try simp only [hl122001_64]); (with_reducible repeat (first | apply Kd.R_alloc | apply Kd.R_drewN | apply Kd.R_drew)); exact Kd.R_mono HO_122001.out (fun _ hk => trivial)⟩, ⟨by (try simp only [hl122001_64]); (with_reducible repeat (first | refine blk_drewN ?_ _ | refine blk_drew ?_ | refine blk_alloc ?_ _)); exact BK101.out⟩, ⟨by (try simp only [hl122001_64]); (with_reducible repeat (first | refine blk_drewN ?_ _ | refine blk_drew ?_ | refine blk_alloc ?_ _)); exact BK121.out⟩, ⟨zz9⟩⟩
      replace c108 := Bool.eq_false_iff.mpr c108; subst c108; rw [if_neg (show ¬ (false = true) by decide)] at H; have H' := Aside0.mk H; clear H; obtain ⟨Ao111, co111, eo111⟩ := Kd.R_slice HO168.out; subst eo111; obtain ⟨Ao112, co112, eo112⟩ := Kd.R_slice HO_10.out; subst eo112; (go_wp2_with (first | ((with_reducible refine gate_callee (f := 27) rfl ?_); refine goesL_ (some 128) rfl rfl Try.func27 (by kernel_rfl) rfl #[.slice Ao111 t166.length co111, .slice Ao112 t113.length co112] rfl zz3 ?_; (with_reducible refine (laws_eqIntS.calls kj64 _ _ t166 _ _ t113 false _ ?side1 ?side2 ?side3 ?side4 A107.out).mono ?_); (case side1 => repeat (first | exact (Kd.R_reads' HO168.out).2.2 | (with_reducible refine Kd.C_alloc ?_ _) | (with_reducible refine Kd.C_drewN ?_ _) | (with_reducible refine Kd.C_drew ?_))); (case side2 => exact (Kd.R_reads' HO168.out).2.1); (case side3 => exact zz53); (case side4 => exact (Kd.R_reads' HO_10.out).2.1); rintro e w' ⟨rfl, ⟨nd, rfl⟩⟩; refine ⟨_, rfl, ?_⟩))); (go_meet); case rel => exact ⟨_, (true), zz8, H', ⟨by have := HJ21.out; have := HJ64.out; first | omega | exact Nat.le_refl _⟩, ⟨by (try simp only [hl122001_64]); (with_reducible repeat (first | apply Kd.R_alloc | apply Kd.R_drewN | apply Kd.R_drew)); exact Kd.R_mono HO_15.out (fun _ hk => trivial)⟩, ⟨by (try simp only [hl122001_64]); (with_reducible repeat (first | apply Kd.R_alloc | apply Kd.R_drewN | apply Kd.R_drew)); exact Kd.R_mono HO_122001.out (fun _ hk => trivial)⟩, ⟨by (try simp only [hl122001_64]); (with_reducible repeat (first | refine blk_drewN ?_ _ | refine blk_drew ?_ | refine blk_alloc ?_ _)); exact BK101.out⟩, ⟨by (try simp only [hl122001_64]); (with_reducible repeat (first | refine blk_drewN ?_ _ | refine blk_drew ?_ | refine blk_alloc ?_ _)); exact BK121.out⟩, ⟨zz9⟩⟩
     case rest =>
      clear HC95; (try clear c1); (try clear c2); (try clear p2); (try clear c3); (try clear c4); (try clear c5); (try clear c5b0); (try clear c5b1); (try clear c6); (try clear c7); (try clear c7b0); (try clear c7b1); (try clear c8); (try clear c9); (try clear c10); (try clear c10b0); (try clear c15); (try clear c23); (try clear c24); (try clear c25); (try clear c26); (try clear c27); (try clear c28); (try clear c29); (try clear c30); (try clear c31); (try clear c37); (try clear c47); (try clear c52); (try clear c55); (try clear c58); (try clear c61); (try clear c74); (try clear c79); (try clear c79b0); (try clear c81); (try clear c86); (try clear c89); (try clear c89b0); (try clear c90); (try clear c90b0); (try clear c90b1); (try clear c98); (try clear c108); (try clear hcz12_0); (try clear hcz12_1); (try clear hcz24_0); (try clear hcz24_1); (try clear hcz26_0); (try clear hcz26_1); (try clear hcz34_0); (try clear hcz34_1); (try clear hcz38_0); (try clear hcz38_1); (try clear hcz42_0); (try clear hcz42_1); (try clear hcz75_0); (try clear hcz75_1); (try clear hcz99_0); (try clear hcz99_1); (try clear hfz12_0); (try clear hfz12_1); (try clear hfz24_0); (try clear hfz24_1); (try clear hfz26_0); (try clear hfz26_1); (try clear hfz34_0); (try clear hfz34_1); (try clear hfz38_0); (try clear hfz38_1); (try clear hfz42_0); (try clear hfz42_1); (try clear hfz75_0); (try clear hfz75_1); (try clear hfz99_0); (try clear hfz99_1); (try clear p2); obtain ⟨kq, x134_94, rfl, HA, HJ94, HO_15, HO_122001, BK101, BK121, HB⟩ := hcut; have hl15_94 := (Kd.R_reads' HO_15.out).1; rw [hl15_94] at HO_15; (try simp only [hl15_94]); (try simp only [hl15_94] at BK101); (try simp only [hl15_94] at BK121); (try simp only [hl15_94] at HO_122001)
      cases kq with
      | zero => exact absurd HA.out (by simp [laws_FnExactSumOfPiles.j2])
      | succ kj94 =>
       have H := HA.out; clear HA; simp only [laws_FnExactSumOfPiles.j2] at H; by_cases c113 : x134_94 = true
       ·subst c113; rw [if_pos rfl] at H; exact absurd H (by simp)
       replace c113 := Bool.eq_false_iff.mpr c113; subst c113; rw [if_neg (show ¬ (false = true) by decide)] at H; replace H := Option.bind_eq_some_iff.mp H; obtain ⟨t171, A1140, H⟩ := H; (try dsimp only at H); have A114 := Aside0.mk A1140; clear A1140; by_cases c115 : t171 < 0
       ·rw [if_pos c115] at H; exact absurd H (by simp)
       rw [if_neg c115] at H; have c115b0 := decide_eq_false c115; clear c115; by_cases c116 : t171 = t153; rotate_left
       ·rw [if_neg c116] at H; exact absurd H (by simp)
       rw [if_pos c116] at H; have c116b0 : (t171 == t153) = true := beq_iff_eq.mpr c116; have c116b1 : (t171 != t153) = false := bne_eq_false_iff_eq.mpr c116; clear c116; obtain rfl := Option.some.inj H; (go_wp2_with (first | ((with_reducible refine gate_callee (f := 31) rfl ?_); refine goesL_ (some 137) rfl rfl Try.func31 (by kernel_rfl) rfl #[.slice Ao96 t154.length co96, .int .i64 1] rfl zz3 ?_; (with_reducible refine (laws_heldIntS.calls kj94 _ _ t154 1 t171 _ ?side1 ?side2 A114.out).mono ?_); (case side1 => exact zz52); (case side2 => exact (Kd.R_reads' HO_15.out).2.1); rintro e w' ⟨rfl, ⟨nd, rfl⟩⟩; refine ⟨_, rfl, ?_⟩))); go_ret; exact ⟨zz6, zz9⟩
end Go.Proofs.Ytgobnfeahffnaaa.P
end

section
namespace Go.Proofs.Ytgobnfeahffnaaa.P
open Go.RowKit Go.Proofs.YtgobnfeahffnaaaW.PrintWords Go.Proofs.YtgobnfeahffnaaaW.PrintLast Go.Proofs.YtgobnfeahffnaaaW.PrintMore
attribute [local go_sem] max2_int min2_int max_two min_two max_three min_three max_four min_four
set_option linter.unusedVariables false
set_option linter.unusedSimpArgs false
def impl_isVertex.f (a0_0 : Int) (l0_1 : List (S83)) (a1 : Int) : Option (Bool) := (impl_GraphOk.f a0_0 l0_1).bind fun t102 => (if t102 = true then ((impl_within.f a1 0 (wrap64 (a0_0 - 1))).bind fun t103 => (some t103)) else (some false))
end Go.Proofs.Ytgobnfeahffnaaa.P
end

section
namespace Go.Proofs.Ytgobnfeahffnaaa.Cf
set_option linter.unusedVariables false
set_option linter.unusedSimpArgs false
open Go.RowKit Go.Proofs.YtgobnfeahffnaaaW.PrintWords Go.Proofs.Ytgobnfeahffnaaa.P
theorem forall_drop' {α : Type} {l : List α} {P : α → Prop} {i : Nat} (h : i < l.length) : (∀ e ∈ l.drop i, P e) ↔ (P l[i] ∧ ∀ e ∈ l.drop (i + 1), P e) := by
  rw [List.drop_eq_getElem_cons h]
  simp only [List.mem_cons, forall_eq_or_imp]
theorem implGraph (n : Int) (es : List E) : impl_GraphOk.f n es = some (gOk n es) := rfl
theorem allWithin_l0 (a b : Int) (l : List Int) (hl : l.length ≤ 1048576) : ∀ (d i : Nat), i + d = l.length → Ep (fun k => impl_allWithin.l0 k a b l (l.length : Int) (i : Int)) (· = decide (∀ x ∈ l.drop i, a ≤ x ∧ x ≤ b)) := by
  intro d
  induction d with
  | zero =>
    intro i hi
    refine Ep.up ?_
    simp only [impl_allWithin.l0]
    refine Ep.neg (by omega) (Ep.now ?_)
    rw [List.drop_of_length_le (by omega)]
    simp
  | succ d ih =>
    intro i hi
    have hlt : i < l.length := by omega
    refine Ep.up ?_
    simp only [impl_allWithin.l0]
    refine Ep.pos (by omega) (Ep.pos (by omega) (Ep.pos (by omega) ?_))
    rw [rd_get hlt, wrap_succ (by omega)]
    refine Ep.bind0 (within_eq _ _ _) ?_
    refine Ep.ite (fun h => ?_) (fun h => Ep.now ?_)
    · have h' : a ≤ l[i] ∧ l[i] ≤ b := by simpa using h
      refine (ih (i + 1) (by omega)).mono ?_
      rintro _ rfl
      simp only [forall_drop' hlt, h', true_and]
    · have h' : ¬ (a ≤ l[i] ∧ l[i] ≤ b) := by simpa using h
      simp only [forall_drop' hlt, h', false_and, decide_false]
theorem allWithin_ok (l : List Int) (a b : Int) (hl : l.length ≤ 1048576) : Ep (fun k => impl_allWithin.f k l a b) (· = decide (∀ x ∈ l, a ≤ x ∧ x ≤ b)) := by
  have := allWithin_l0 a b l hl l.length 0 (by omega)
  simp only [impl_allWithin.f]
  rw [List.drop_zero] at this
  exact this
/-- The edge with this index is at v. -/
def At (es : List E) (k v : Int) : Prop := ∃ j : Nat, k = j ∧ ∃ h : j < es.length, es[j].f0 = v ∨ es[j].f1 = v
theorem At.of {es : List E} {j : Nat} {v : Int} (hj : j < es.length) : At es (j : Int) v ↔ (es[j].f0 = v ∨ es[j].f1 = v) := by
  constructor
  · rintro ⟨i, hi, h, hx⟩
    have : i = j := by omega
    subst this
    exact hx
  · intro h
    exact ⟨j, rfl, hj, h⟩
end Go.Proofs.Ytgobnfeahffnaaa.Cf
end

section
namespace Go.Proofs.Ytgobnfeahffnaaa.Cf
set_option linter.unusedVariables false
set_option linter.unusedSimpArgs false
def sumN : Nat → (Nat → Int) → Int
  | 0, _ => 0
  | n + 1, f => sumN n f + f n
def sumE (es : List E) (f : E → Int) : Int := (es.map f).sum
theorem sumE_cons (e : E) (r : List E) (f : E → Int) : sumE (e :: r) f = f e + sumE r f := by simp [sumE]
theorem sumN_congr {n : Nat} {f g : Nat → Int} (h : ∀ i, i < n → f i = g i) : sumN n f = sumN n g := by
  induction n with
  | zero => rfl
  | succ n ih => simp only [sumN]; rw [ih (fun i hi => h i (by omega)), h n (by omega)]
theorem sumN_le {n : Nat} {f g : Nat → Int} (h : ∀ i, i < n → f i ≤ g i) : sumN n f ≤ sumN n g := by
  induction n with
  | zero => exact Int.le_refl _
  | succ n ih =>
    simp only [sumN]
    have := ih (fun i hi => h i (by omega))
    have := h n (by omega)
    omega
theorem sumN_add (n : Nat) (f g : Nat → Int) : sumN n (fun i => f i + g i) = sumN n f + sumN n g := by
  induction n with
  | zero => rfl
  | succ n ih => simp only [sumN]; rw [ih]; omega
theorem sumN_zero (n : Nat) : sumN n (fun _ => 0) = 0 := by
  induction n with
  | zero => rfl
  | succ n ih => simp only [sumN]; rw [ih]; rfl
theorem sumN_const (n : Nat) (c : Int) : sumN n (fun _ => c) = n * c := by
  induction n with
  | zero => simp [sumN]
  | succ n ih => simp only [sumN]; rw [ih]; rw [Int.natCast_succ, Int.add_mul]; omega
theorem sumN_one {n : Nat} (k : Nat) (hk : k < n) (c : Int) : sumN n (fun i => if i = k then c else 0) = c := by
  induction n with
  | zero => omega
  | succ n ih =>
    simp only [sumN]
    by_cases h : n = k
    · subst h
      rw [if_pos rfl, sumN_congr (g := fun _ => 0) (fun i hi => by rw [if_neg (by omega)]), sumN_zero]
      omega
    · rw [ih (by omega), if_neg h]
      omega
theorem sumE_congr {es : List E} {f g : E → Int} (h : ∀ e ∈ es, f e = g e) : sumE es f = sumE es g := by
  unfold sumE
  rw [List.map_congr_left h]
theorem sumE_add (es : List E) (f g : E → Int) : sumE es (fun e => f e + g e) = sumE es f + sumE es g := by
  induction es with
  | nil => rfl
  | cons e r ih => rw [sumE_cons, sumE_cons, sumE_cons, ih]; omega
theorem sumE_le {es : List E} {f g : E → Int} (h : ∀ e ∈ es, f e ≤ g e) : sumE es f ≤ sumE es g := by
  induction es with
  | nil => exact Int.le_refl _
  | cons e r ih =>
    rw [sumE_cons, sumE_cons]
    have := ih (fun x hx => h x (List.mem_cons_of_mem _ hx))
    have := h e List.mem_cons_self
    omega
theorem sumE_zero {es : List E} {f : E → Int} (h : ∀ e ∈ es, f e = 0) : sumE es f = 0 := by
  induction es with
  | nil => rfl
  | cons e r ih => rw [sumE_cons, ih (fun x hx => h x (List.mem_cons_of_mem _ hx)), h e List.mem_cons_self]; rfl
theorem sumE_nonneg {es : List E} {f : E → Int} (h : ∀ e ∈ es, 0 ≤ f e) : 0 ≤ sumE es f := by
  have := sumE_le (es := es) (f := fun _ => 0) (g := f) h
  rw [sumE_zero (fun _ _ => rfl)] at this
  exact this
theorem sumE_term {es : List E} {f : E → Int} (h : ∀ e ∈ es, 0 ≤ f e) {e : E} (he : e ∈ es) : f e ≤ sumE es f := by
  induction es with
  | nil => cases he
  | cons a r ih =>
    rw [sumE_cons]
    have h0 := sumE_nonneg (fun x hx => h x (List.mem_cons_of_mem a hx))
    rcases List.mem_cons.1 he with rfl | he
    · omega
    · have := ih (fun x hx => h x (List.mem_cons_of_mem _ hx)) he
      have := h a List.mem_cons_self
      omega
theorem sumE_neg (es : List E) (f : E → Int) : sumE es (fun e => - f e) = - sumE es f := by
  induction es with
  | nil => rfl
  | cons e r ih => rw [sumE_cons, sumE_cons, ih]; omega
theorem sumE_mul (es : List E) (c : Int) (f : E → Int) : sumE es (fun e => c * f e) = c * sumE es f := by
  induction es with
  | nil => simp [sumE]
  | cons e r ih => rw [sumE_cons, sumE_cons, ih, Int.mul_add]
/-- What an edge takes from w when the script s is fired. -/
def lapE (s : Int → Int) (w : Int) (e : E) : Int := (if e.f0 = w then s e.f0 - s e.f1 else 0) + (if e.f1 = w then s e.f1 - s e.f0 else 0)
/-- What w loses when the script s is fired. -/
def lap (es : List E) (s : Int → Int) (w : Int) : Int := sumE es (lapE s w)
def ind (P : Int → Bool) (v : Int) : Int := if P v then 1 else 0
def one (v : Int) (t : Int) (w : Int) : Int := if w = v then t else 0
theorem lap_nil (s : Int → Int) (w : Int) : lap [] s w = 0 := rfl
theorem lap_cons (e : E) (r : List E) (s : Int → Int) (w : Int) : lap (e :: r) s w = lapE s w e + lap r s w := sumE_cons _ _ _
theorem lap_add (es : List E) (s t : Int → Int) (w : Int) : lap es (fun v => s v + t v) w = lap es s w + lap es t w := by
  unfold lap
  rw [← sumE_add]
  apply sumE_congr
  intro e _
  simp only [lapE]
  split <;> split <;> omega
theorem lap_neg (es : List E) (s : Int → Int) (w : Int) : lap es (fun v => - s v) w = - lap es s w := by
  unfold lap
  rw [← sumE_neg]
  apply sumE_congr
  intro e _
  simp only [lapE]
  split <;> split <;> omega
theorem lap_sub (es : List E) (s t : Int → Int) (w : Int) : lap es (fun v => s v - t v) w = lap es s w - lap es t w := by
  have := lap_add es s (fun v => - t v) w
  rw [lap_neg] at this
  rw [show (fun v => s v - t v) = (fun v => s v + - t v) from funext fun v => by omega, this]
  omega
theorem lap_congr {n : Int} {es : List E} (hes : ∀ e ∈ es, EOk n e) {s t : Int → Int} (h : ∀ v, 0 ≤ v → v < n → s v = t v) (w : Int) : lap es s w = lap es t w := by
  apply sumE_congr
  intro e he
  have hk := hes e he
  unfold EOk at hk
  unfold lapE
  rw [h e.f0 (by omega) (by omega), h e.f1 (by omega) (by omega)]
theorem lap_const {es : List E} {s : Int → Int} {c : Int} (h : ∀ e ∈ es, s e.f0 = c ∧ s e.f1 = c) (w : Int) : lap es s w = 0 := by
  apply sumE_zero
  intro e he
  unfold lapE
  rw [(h e he).1, (h e he).2]
  split <;> split <;> omega
/-- Dirichlet's form. -/
theorem dirichlet {n : Nat} {es : List E} (hes : ∀ e ∈ es, EOk n e) (f s : Int → Int) : sumN n (fun i => f i * lap es s i) = sumE es (fun e => (f e.f0 - f e.f1) * (s e.f0 - s e.f1)) := by
  induction es with
  | nil => simp only [lap_nil, Int.mul_zero]; rw [sumN_zero]; rfl
  | cons e r ih =>
    have hk := hes e List.mem_cons_self
    unfold EOk at hk
    rw [sumE_cons, ← ih (fun x hx => hes x (List.mem_cons_of_mem _ hx))]
    have h1 : sumN n (fun i => f i * lap (e :: r) s i) = sumN n (fun i => f i * lapE s i e) + sumN n (fun i => f i * lap r s i) := by
      rw [← sumN_add]
      apply sumN_congr
      intro i _
      rw [lap_cons, Int.mul_add]
    rw [h1]
    congr 1
    have h2 : sumN n (fun i => f i * lapE s i e) = sumN n (fun i => if i = e.f0.toNat then f e.f0 * (s e.f0 - s e.f1) else 0) + sumN n (fun i => if i = e.f1.toNat then f e.f1 * (s e.f1 - s e.f0) else 0) := by
      rw [← sumN_add]
      apply sumN_congr
      intro i _
      unfold lapE
      have c0 : (e.f0 = (i : Int)) ↔ (i = e.f0.toNat) := by omega
      have c1 : (e.f1 = (i : Int)) ↔ (i = e.f1.toNat) := by omega
      rw [Int.mul_add]
      congr 1
      · by_cases h : e.f0 = (i : Int)
        · rw [if_pos h, if_pos (c0.1 h), h]
        · rw [if_neg h, if_neg (fun x => h (c0.2 x)), Int.mul_zero]
      · by_cases h : e.f1 = (i : Int)
        · rw [if_pos h, if_pos (c1.1 h), h]
        · rw [if_neg h, if_neg (fun x => h (c1.2 x)), Int.mul_zero]
    rw [h2, sumN_one _ (by omega), sumN_one _ (by omega)]
    rw [show s e.f1 - s e.f0 = -(s e.f0 - s e.f1) by omega, Int.mul_neg, Int.sub_mul]
    omega
/-- Across an edge out of a set that is above, no more than what the set loses. -/
theorem cut_le {n : Nat} {es : List E} (hes : ∀ e ∈ es, EOk n e) {s : Int → Int} {t C : Int} (hC : sumN n (fun i => ind (fun v => decide (t ≤ s v)) i * lap es s i) ≤ C) {a b : Int} (hab : Adj es a b) (ha : t ≤ s a) (hb : s b < t) : s a - s b ≤ C := by
  rw [dirichlet hes] at hC
  obtain ⟨e, he, hx⟩ := hab
  have hnn : ∀ e ∈ es, 0 ≤ (ind (fun v => decide (t ≤ s v)) e.f0 - ind (fun v => decide (t ≤ s v)) e.f1) * (s e.f0 - s e.f1) := by
    intro e _
    unfold ind
    by_cases h0 : t ≤ s e.f0 <;> by_cases h1 : t ≤ s e.f1 <;> simp [h0, h1] <;> omega
  have h1 := sumE_term hnn he
  have h2 : s a - s b ≤ (ind (fun v => decide (t ≤ s v)) e.f0 - ind (fun v => decide (t ≤ s v)) e.f1) * (s e.f0 - s e.f1) := by
    unfold ind
    rcases hx with ⟨x0, x1⟩ | ⟨x0, x1⟩
    · subst x0; subst x1
      have h1 : ¬ t ≤ s e.f1 := by omega
      simp [ha, h1]
    · subst x0; subst x1
      have h1 : ¬ t ≤ s e.f0 := by omega
      simp [ha, h1]
      omega
  omega
/-- From a set that is not all and not closed an edge leads out. -/
theorem exists_cut {es : List E} {S : Int → Prop} {a b : Int} (hab : Conn es a b) (ha : ¬ S a) (hb : S b) : ∃ u w, Adj es u w ∧ S u ∧ ¬ S w := by
  induction hab with
  | refl => exact absurd hb ha
  | @tail x y _ hadj ih =>
    by_cases hx : S x
    · exact ih hx
    · exact ⟨y, x, hadj.symm, hb, hx⟩
def below (n : Nat) (s : Int → Int) (t : Int) : Nat := (List.range n).countP (fun i => decide (s (i : Nat) < t))
/-- A script that is 0 at q, all of whose upper sets lose no more than C, is at most 6 C. -/
theorem script_le {n : Nat} {es : List E} (hes : ∀ e ∈ es, EOk n e) (hj : Joined n es) {q : Int} (hq : 0 ≤ q ∧ q < n) {s : Int → Int} {C : Int} (hC0 : 0 ≤ C) (hsq : s q ≤ 0)
    (hC : ∀ t : Int, 0 < t → sumN n (fun i => ind (fun v => decide (t ≤ s v)) i * lap es s i) ≤ C) : ∀ v : Int, 0 ≤ v → v < n → s v ≤ n * C := by
  have key : ∀ k : Nat, ∀ v : Int, 0 ≤ v → v < n → below n s (s v) ≤ k → s v ≤ k * C := by
    intro k
    induction k with
    | zero =>
      intro v h0 h1 hk
      apply Classical.byContradiction
      intro hc
      have hpos : 0 < below n s (s v) := by
        unfold below
        rw [List.countP_pos_iff]
        refine ⟨q.toNat, List.mem_range.2 (by omega), ?_⟩
        have : ((q.toNat : Nat) : Int) = q := by omega
        rw [this]
        simp
        omega
      omega
    | succ k ih =>
      intro v h0 h1 hk
      by_cases hpos : s v ≤ 0
      · have : 0 ≤ ((k + 1 : Nat) : Int) * C := Int.mul_nonneg (by omega) hC0
        omega
      · have hqv : Conn es q v := ((hj q hq.1 hq.2).symm).trans (hj v h0 h1)
        obtain ⟨u, w, hadj, hu, hw⟩ := exists_cut (S := fun x => s v ≤ s x) hqv (by omega) (Int.le_refl _)
        have hcut := cut_le hes (hC (s v) (by omega)) hadj hu (by omega)
        have hw0 := EsOk.adj hes hadj
        have hlt : below n s (s w) < below n s (s v) := by
          refine countP_lt (fun x _ hx => ?_) ⟨w.toNat, List.mem_range.2 (by omega), ?_, ?_⟩
          · simp only [decide_eq_true_eq] at hx ⊢
            omega
          · have : ((w.toNat : Nat) : Int) = w := by omega
            rw [this]; simp
          · have : ((w.toNat : Nat) : Int) = w := by omega
            rw [this]; simp; omega
        have := ih w hw0.1 hw0.2 (by omega)
        rw [Int.natCast_succ, Int.add_mul, Int.one_mul]
        omega
  intro v h0 h1
  refine key n v h0 h1 ?_
  have := List.countP_le_length (p := fun i => decide (s ((i : Nat) : Int) < s v)) (l := List.range n)
  rw [List.length_range] at this
  exact this
theorem script_bd {n : Nat} {es : List E} (hes : ∀ e ∈ es, EOk n e) (hj : Joined n es) {q : Int} (hq : 0 ≤ q ∧ q < n) {s : Int → Int} {c : Int} (hc : 0 ≤ c) (hsq : s q ≤ 0)
    (h : ∀ v : Int, 0 ≤ v → v < n → 0 < s v → lap es s v ≤ c) : ∀ v : Int, 0 ≤ v → v < n → s v ≤ n * (n * c) := by
  refine script_le hes hj hq (Int.mul_nonneg (by omega) hc) hsq ?_
  intro t ht
  rw [← sumN_const]
  apply sumN_le
  intro i hi
  unfold ind
  by_cases hx : t ≤ s i
  · simp only [hx, decide_true, if_true, Int.one_mul]
    exact h i (by omega) (by omega) (by omega)
  · simp only [hx, decide_false, Int.zero_mul, Bool.false_eq_true, if_false]
    exact hc
def valE (v : Int) (e : E) : Int := if e.f0 = v ∨ e.f1 = v then 1 else 0
/-- The number of edges at a vertex. -/
def val (es : List E) (v : Int) : Int := sumE es (valE v)
def multE (a b : Int) (e : E) : Int := if (e.f0 = a ∧ e.f1 = b) ∨ (e.f0 = b ∧ e.f1 = a) then 1 else 0
/-- The number of edges between two vertices. -/
def mult (es : List E) (a b : Int) : Int := sumE es (multE a b)
theorem val_nonneg (es : List E) (v : Int) : 0 ≤ val es v := sumE_nonneg fun e _ => by unfold valE; split <;> omega
theorem mult_nonneg (es : List E) (a b : Int) : 0 ≤ mult es a b := sumE_nonneg fun e _ => by unfold multE; split <;> omega
/-- One vertex fires: it loses its valence. -/
theorem lap_one_self {n : Int} {es : List E} (hes : ∀ e ∈ es, EOk n e) (v t : Int) : lap es (one v t) v = t * val es v := by
  unfold lap val
  rw [← sumE_mul]
  apply sumE_congr
  intro e he
  have hk := hes e he
  unfold EOk at hk
  unfold lapE valE one
  by_cases a : e.f0 = v
  · have b : ¬ e.f1 = v := by omega
    simp [a, b]
  · by_cases b : e.f1 = v
    · simp [a, b]
    · simp [a, b]
/-- .. and another one gains along their edges. -/
theorem lap_one_ne {n : Int} {es : List E} (hes : ∀ e ∈ es, EOk n e) {v w : Int} (hvw : w ≠ v) (t : Int) : lap es (one v t) w = - (t * mult es v w) := by
  unfold lap mult
  rw [← sumE_mul, ← sumE_neg]
  apply sumE_congr
  intro e he
  have hk := hes e he
  unfold EOk at hk
  unfold lapE multE one
  by_cases a : e.f0 = w
  · have b : ¬ e.f1 = w := by omega
    have c : ¬ e.f0 = v := by omega
    by_cases x : e.f1 = v
    · simp [a, x]; omega
    · simp [a, b, x, hvw]
  · by_cases b : e.f1 = w
    · have c : ¬ e.f1 = v := by omega
      by_cases x : e.f0 = v
      · simp [a, b, x]; omega
      · simp [a, b, x, hvw]
    · simp [a, b]
theorem val_pos {n : Nat} {es : List E} (hj : Joined n es) {q v : Int} (hq : 0 ≤ q ∧ q < n) (hv : 0 ≤ v ∧ v < n) (hne : v ≠ q) : 0 < val es v := by
  have hc : Conn es q v := ((hj q hq.1 hq.2).symm).trans (hj v hv.1 hv.2)
  obtain ⟨u, w, ⟨e, he, hx⟩, hu, hw⟩ := exists_cut (S := fun x => x = v) hc (fun h => hne h.symm) rfl
  subst hu
  have h1 := sumE_term (f := valE u) (fun e _ => by unfold valE; split <;> omega) he
  have h2 : valE u e = 1 := by
    unfold valE
    rw [if_pos]
    rcases hx with ⟨a, _⟩ | ⟨_, b⟩
    · exact .inl a
    · exact .inr b
  unfold val
  omega
/-- s is reached from p by toppling unstable vertices other than q. -/
inductive Legal (n : Nat) (es : List E) (q : Int) (p : Int → Int) : (Int → Int) → Prop
  | zero : Legal n es q p (fun _ => 0)
  | step {s : Int → Int} {v : Int} : Legal n es q p s → 0 ≤ v → v < n → v ≠ q → val es v ≤ p v - lap es s v → Legal n es q p (fun w => s w + one v 1 w)
def Stable (n : Nat) (es : List E) (q : Int) (d : Int → Int) : Prop := ∀ v : Int, 0 ≤ v → v < n → v ≠ q → d v < val es v
theorem lap_le_zero {es : List E} {r : Int → Int} {v : Int} (h : ∀ w, 0 ≤ r w) (hv : r v = 0) : lap es r v ≤ 0 := by
  have := sumE_le (es := es) (f := lapE r v) (g := fun _ => 0) (fun e _ => by
    unfold lapE
    have h0 := h e.f0
    have h1 := h e.f1
    by_cases a : e.f0 = v
    · by_cases b : e.f1 = v
      · simp [a, b]
      · rw [if_pos a, if_neg b, a, hv]; omega
    · by_cases b : e.f1 = v
      · rw [if_neg a, if_pos b, b, hv]; omega
      · rw [if_neg a, if_neg b]; omega)
  rw [sumE_zero (fun _ _ => rfl)] at this
  exact this
theorem Legal.nonneg {n : Nat} {es : List E} {q : Int} {p s : Int → Int} (h : Legal n es q p s) : (∀ w, 0 ≤ s w) ∧ s q = 0 := by
  induction h with
  | zero => exact ⟨fun _ => Int.le_refl _, rfl⟩
  | @step s v _ _ _ hq _ ih =>
    refine ⟨fun w => ?_, ?_⟩
    · have := ih.1 w
      show 0 ≤ s w + one v 1 w
      unfold one
      split <;> omega
    · have := ih.2
      show s q + one v 1 q = 0
      unfold one
      rw [if_neg (fun x : q = v => hq x.symm)]
      omega
/-- The least action: a legal script is at most any script that stabilizes. -/
theorem Legal.least {n : Nat} {es : List E} {q : Int} {p s t : Int → Int} (h : Legal n es q p s) (ht : ∀ w, 0 ≤ t w) (hst : Stable n es q (fun v => p v - lap es t v)) : ∀ w, s w ≤ t w := by
  induction h with
  | zero => exact ht
  | @step s v _ h0 h1 hq hv ih =>
    intro w
    show s w + one v 1 w ≤ t w
    unfold one
    by_cases e : w = v
    · subst e
      rw [if_pos rfl]
      have := ih w
      by_cases hlt : s w < t w
      · omega
      · exfalso
        have hle := lap_le_zero (es := es) (r := fun x => t x - s x) (v := w) (fun x => by have := ih x; omega) (by omega)
        rw [lap_sub] at hle
        have := hst w h0 h1 hq
        simp only at this
        omega
    · rw [if_neg e]
      have := ih w
      omega
/-- Two legal scripts that stabilize are one. -/
theorem Legal.unique {n : Nat} {es : List E} {q : Int} {p s t : Int → Int} (hs : Legal n es q p s) (ht : Legal n es q p t) (ss : Stable n es q (fun v => p v - lap es s v)) (st : Stable n es q (fun v => p v - lap es t v)) : s = t := by
  funext w
  have := hs.least ht.nonneg.1 st w
  have := ht.least hs.nonneg.1 ss w
  omega
/-- Several topplings of one vertex at once. -/
theorem Legal.many {n : Nat} {es : List E} (hes : ∀ e ∈ es, EOk n e) {q : Int} {p s : Int → Int} (h : Legal n es q p s) {v : Int} (h0 : 0 ≤ v) (h1 : v < n) (hq : v ≠ q) : ∀ k : Nat, k * val es v ≤ p v - lap es s v → Legal n es q p (fun w => s w + one v k w)
  | 0, _ => by
    have : (fun w => s w + one v ((0 : Nat) : Int) w) = s := by
      funext w
      unfold one
      split <;> simp
    rw [this]
    exact h
  | k + 1, hk => by
    have hv := val_nonneg es v
    rw [Int.natCast_succ, Int.add_mul] at hk
    have ih := Legal.many hes h h0 h1 hq k (by omega)
    have := Legal.step ih h0 h1 hq (by
      rw [lap_add, lap_one_self hes]
      omega)
    have e : (fun w => s w + one v ((k + 1 : Nat) : Int) w) = fun w => s w + one v (k : Int) w + one v 1 w := by
      funext w
      unfold one
      split <;> omega
    rw [e]
    exact this
end Go.Proofs.Ytgobnfeahffnaaa.Cf
end

section
namespace Go.Proofs.Ytgobnfeahffnaaa.Cf
set_option linter.unusedVariables false
set_option linter.unusedSimpArgs false
open Go.RowKit Go.Proofs.YtgobnfeahffnaaaW.PrintWords Go.Proofs.Ytgobnfeahffnaaa.P
/-- A divisor. -/
def dOk (n : Int) (es : List E) (d : List Int) : Bool := gOk n es && (decide ((d.length : Int) = n) && decide (∀ x ∈ d, -60 ≤ x ∧ x ≤ 60))
theorem dOk_iff {n : Int} {es : List E} {d : List Int} : dOk n es d = true ↔ GOk n es ∧ (d.length : Int) = n ∧ ∀ x ∈ d, -60 ≤ x ∧ x ≤ 60 := by
  unfold dOk
  simp only [Bool.and_eq_true, decide_eq_true_eq, gOk_iff]
theorem specDiv_l0 (o : List Int) (hl : o.length ≤ 1048576) : ∀ (d i : Nat), i + d = o.length → Ep (fun k => spec_DivisorOk.l0 k o (o.length : Int) (i : Int)) (· = decide (∀ x ∈ o.drop i, -60 ≤ x ∧ x ≤ 60)) := by
  intro d
  induction d with
  | zero =>
    intro i hi
    refine Ep.up ?_
    simp only [spec_DivisorOk.l0]
    refine Ep.neg (by omega) (Ep.now ?_)
    rw [List.drop_of_length_le (by omega)]
    simp
  | succ d ih =>
    intro i hi
    have hlt : i < o.length := by omega
    refine Ep.up ?_
    simp only [spec_DivisorOk.l0]
    refine Ep.pos (by omega) (Ep.pos (by omega) (Ep.pos (by omega) ?_))
    rw [rd_get hlt, wrap_succ (by omega)]
    refine Ep.bind0 (l01In_eq _ _ _) ?_
    refine Ep.ite (fun h => ?_) (fun h => Ep.now ?_)
    · have h' : -60 ≤ o[i] ∧ o[i] ≤ 60 := by simpa using h
      refine (ih (i + 1) (by omega)).mono ?_
      rintro _ rfl
      simp only [forall_drop' hlt, h', true_and]
    · have h' : ¬ (-60 ≤ o[i] ∧ o[i] ≤ 60) := by simpa using h
      simp only [forall_drop' hlt, h', false_and, decide_false]
theorem specDiv (n : Int) (es : List E) (d : List Int) (hl : d.length ≤ 1048576) : Ep (fun k => spec_DivisorOk.f k n es d) (· = dOk n es d) := by
  simp only [spec_DivisorOk.f, dOk]
  refine Ep.bind (specGraph n es) ?_
  rintro _ rfl
  refine Ep.ite (fun hg => ?_) (fun hg => ?_)
  · refine Ep.up ?_
    simp only [spec_DivisorOk.j0]
    refine Ep.ite (fun h => Ep.now ?_) (fun h => ?_)
    · have h' : ¬ (d.length : Int) = n := by simpa using h
      simp [h']
    · have h' : (d.length : Int) = n := by simpa using h
      refine (specDiv_l0 d hl d.length 0 (by omega)).mono ?_
      rintro _ rfl
      rw [List.drop_zero, hg]
      simp only [h', decide_true, Bool.true_and]
  · refine Ep.up ?_
    simp only [spec_DivisorOk.j0]
    refine Ep.pos trivial (Ep.now ?_)
    have : gOk n es = false := by simpa using hg
    simp [this]
theorem implDiv (n : Int) (es : List E) (d : List Int) (hl : d.length ≤ 1048576) : Ep (fun k => impl_DivisorOk.f k n es d) (· = dOk n es d) := by
  simp only [impl_DivisorOk.f, dOk]
  refine Ep.bind0 (implGraph n es) (Ep.ite (fun hg => ?_) (fun hg => Ep.now ?_))
  · refine Ep.ite (fun h => ?_) (fun h => Ep.now ?_)
    · refine Ep.bind (allWithin_ok d (-60) 60 hl) ?_
      rintro _ rfl
      refine Ep.now ?_
      rw [hg]
      simp only [h, decide_true, Bool.true_and]
    · simp [h]
  · have : gOk n es = false := by simpa using hg
    simp [this]
theorem specEff_l0 (o : List Int) (hl : o.length ≤ 1048576) : ∀ (d i : Nat), i + d = o.length → Ep (fun k => spec_IsEffective.l0 k o (o.length : Int) (i : Int)) (· = decide (∀ x ∈ o.drop i, 0 ≤ x)) := by
  intro d
  induction d with
  | zero =>
    intro i hi
    refine Ep.up ?_
    simp only [spec_IsEffective.l0]
    refine Ep.neg (by omega) (Ep.now ?_)
    rw [List.drop_of_length_le (by omega)]
    simp
  | succ d ih =>
    intro i hi
    have hlt : i < o.length := by omega
    refine Ep.up ?_
    simp only [spec_IsEffective.l0]
    refine Ep.pos (by omega) (Ep.pos (by omega) (Ep.pos (by omega) ?_))
    rw [rd_get hlt, wrap_succ (by omega)]
    refine Ep.ite (fun h => Ep.now ?_) (fun h => ?_)
    · have h' : ¬ 0 ≤ o[i] := by omega
      simp only [forall_drop' hlt, h', false_and, decide_false]
    · have h' : 0 ≤ o[i] := by omega
      refine (ih (i + 1) (by omega)).mono ?_
      rintro _ rfl
      simp only [forall_drop' hlt, h', true_and]
theorem specEff (d : List Int) (hl : d.length ≤ 1048576) : Ep (fun k => spec_IsEffective.f k d) (· = decide (∀ x ∈ d, 0 ≤ x)) := by
  have := specEff_l0 d hl d.length 0 (by omega)
  simp only [spec_IsEffective.f]
  rw [List.drop_zero] at this
  exact this
theorem implEff_l0 (o : List Int) (hl : o.length ≤ 1048576) : ∀ (d i : Nat), i + d = o.length → Ep (fun k => impl_IsEffective.l0 k o (o.length : Int) (i : Int)) (· = decide (∀ x ∈ o.drop i, 0 ≤ x)) := by
  intro d
  induction d with
  | zero =>
    intro i hi
    refine Ep.up ?_
    simp only [impl_IsEffective.l0]
    refine Ep.neg (by omega) (Ep.now ?_)
    rw [List.drop_of_length_le (by omega)]
    simp
  | succ d ih =>
    intro i hi
    have hlt : i < o.length := by omega
    refine Ep.up ?_
    simp only [impl_IsEffective.l0]
    refine Ep.pos (by omega) (Ep.pos (by omega) (Ep.pos (by omega) ?_))
    rw [rd_get hlt, wrap_succ (by omega)]
    refine Ep.ite (fun h => Ep.now ?_) (fun h => ?_)
    · have h' : ¬ 0 ≤ o[i] := by omega
      simp only [forall_drop' hlt, h', false_and, decide_false]
    · have h' : 0 ≤ o[i] := by omega
      refine (ih (i + 1) (by omega)).mono ?_
      rintro _ rfl
      simp only [forall_drop' hlt, h', true_and]
theorem implEff (d : List Int) (hl : d.length ≤ 1048576) : Ep (fun k => impl_IsEffective.f k d) (· = decide (∀ x ∈ d, 0 ≤ x)) := by
  have := implEff_l0 d hl d.length 0 (by omega)
  simp only [impl_IsEffective.f]
  rw [List.drop_zero] at this
  exact this
/-- A configuration. -/
def pOk (n : Int) (es : List E) (p : List Int) (q : Int) : Bool := dOk n es p && (decide (0 ≤ q ∧ q < n) && (decide (∀ x ∈ p, 0 ≤ x) && decide (rd p q = 0)))
theorem pOk_iff {n : Int} {es : List E} {p : List Int} {q : Int} : pOk n es p q = true ↔ (GOk n es ∧ (p.length : Int) = n ∧ ∀ x ∈ p, -60 ≤ x ∧ x ≤ 60) ∧ (0 ≤ q ∧ q < n) ∧ (∀ x ∈ p, 0 ≤ x) ∧ rd p q = 0 := by
  unfold pOk
  simp only [Bool.and_eq_true, decide_eq_true_eq, dOk_iff]
theorem specPile (n : Int) (es : List E) (p : List Int) (q : Int) (hl : p.length ≤ 1048576) : Ep (fun k => spec_PileOk.f k n es p q) (· = pOk n es p q) := by
  simp only [spec_PileOk.f, pOk]
  refine Ep.bind (specDiv n es p hl) ?_
  rintro _ rfl
  refine Ep.ite (fun hd => ?_) (fun hd => Ep.now ?_)
  · obtain ⟨⟨⟨h1, h6, _, _⟩, _, _⟩, hpl, _⟩ := dOk_iff.1 hd
    rw [wrap_id (x := n - 1) (by omega) (by omega)]
    refine Ep.bind0 (l01In_eq _ _ _) ?_
    have hq : (0 ≤ q ∧ q ≤ n - 1) ↔ (0 ≤ q ∧ q < n) := by omega
    simp only [hq]
    refine Ep.ite (fun h => ?_) (fun h => Ep.now ?_)
    · refine Ep.bind (specEff p hl) ?_
      rintro _ rfl
      have h' : 0 ≤ q ∧ q < n := by simpa using h
      refine Ep.ite (fun he => Ep.pos h'.1 (Ep.pos (by omega) (Ep.now ?_))) (fun he => Ep.now ?_)
      · rw [hd, h, he]
        rfl
      · have he' : decide (∀ x ∈ p, 0 ≤ x) = false := by simpa using he
        rw [he']
        simp
    · have h' : decide (0 ≤ q ∧ q < n) = false := by simpa using h
      rw [h']
      simp
  · have hd' : dOk n es p = false := by simpa using hd
    rw [hd']
    rfl
theorem implPile (n : Int) (es : List E) (p : List Int) (q : Int) (hl : p.length ≤ 1048576) : Ep (fun k => impl_PileOk.f k n es p q) (· = pOk n es p q) := by
  simp only [impl_PileOk.f, pOk]
  refine Ep.bind (implDiv n es p hl) ?_
  rintro _ rfl
  refine Ep.ite (fun hd => ?_) (fun hd => Ep.now ?_)
  · obtain ⟨⟨⟨h1, h6, _, _⟩, _, _⟩, hpl, _⟩ := dOk_iff.1 hd
    rw [wrap_id (x := n - 1) (by omega) (by omega)]
    refine Ep.bind0 (within_eq _ _ _) ?_
    have hq : (0 ≤ q ∧ q ≤ n - 1) ↔ (0 ≤ q ∧ q < n) := by omega
    simp only [hq]
    refine Ep.ite (fun h => ?_) (fun h => Ep.now ?_)
    · refine Ep.bind (implEff p hl) ?_
      rintro _ rfl
      have h' : 0 ≤ q ∧ q < n := by simpa using h
      refine Ep.ite (fun he => Ep.pos h'.1 (Ep.pos (by omega) (Ep.now ?_))) (fun he => Ep.now ?_)
      · rw [hd, h, he]
        rfl
      · have he' : decide (∀ x ∈ p, 0 ≤ x) = false := by simpa using he
        rw [he']
        simp
    · have h' : decide (0 ≤ q ∧ q < n) = false := by simpa using h
      rw [h']
      simp
  · have hd' : dOk n es p = false := by simpa using hd
    rw [hd']
    rfl
/-- The valence, 0 where there is no such vertex. -/
def valG (n : Int) (es : List E) (v : Int) : Int := if 0 ≤ v ∧ v < n then val es v else 0
theorem val_drop {es : List E} {i : Nat} (h : i < es.length) (v : Int) : val (es.drop i) v = valE v es[i] + val (es.drop (i + 1)) v := by
  rw [List.drop_eq_getElem_cons h]
  exact sumE_cons _ _ _
theorem specVal_loop (v : Int) (es : List E) (hl : es.length ≤ 1048576) : ∀ (d i : Nat) (a : Int), i + d = es.length → 0 ≤ a → a ≤ i → Ep (fun k => spec_Valence.l0 k v a es (es.length : Int) (i : Int)) (· = a + val (es.drop i) v) := by
  intro d
  induction d with
  | zero =>
    intro i a hi h0 ha
    refine Ep.up ?_
    simp only [spec_Valence.l0]
    refine Ep.neg (by omega) (Ep.now ?_)
    rw [List.drop_of_length_le (by omega)]
    simp [val, sumE]
  | succ d ih =>
    intro i a hi h0 ha
    have hlt : i < es.length := by omega
    refine Ep.up ?_
    simp only [spec_Valence.l0]
    refine Ep.pos (by omega) (Ep.pos (by omega) (Ep.pos (by omega) ?_))
    rw [rdE_get hlt, wrap_succ (by omega), wrap_id (x := a + 1) (by omega) (by omega), val_drop hlt]
    refine Ep.ite (fun h => ?_) (fun h => Ep.ite (fun h2 => ?_) (fun h2 => ?_))
    · refine (ih (i + 1) (a + 1) (by omega) (by omega) (by omega)).mono ?_
      rintro _ rfl
      unfold valE
      rw [if_pos (.inl h)]
      omega
    · refine (ih (i + 1) (a + 1) (by omega) (by omega) (by omega)).mono ?_
      rintro _ rfl
      unfold valE
      rw [if_pos (.inr h2)]
      omega
    · refine (ih (i + 1) a (by omega) h0 (by omega)).mono ?_
      rintro _ rfl
      unfold valE
      rw [if_neg (by rintro (x | x); exact h x; exact h2 x)]
      omega
theorem specValence (n : Int) (es : List E) (v : Int) (hl : es.length ≤ 1048576) : Ep (fun k => spec_Valence.f k n es v) (· = valG n es v) := by
  have hv : spec_l02Vert.f n es v = some (decide (0 ≤ v ∧ v < n)) := by
    unfold spec_l02Vert.f
    by_cases h : v ≥ 0
    · rw [if_pos h]
      have : (0 ≤ v ∧ v < n) ↔ v < n := ⟨fun x => x.2, fun x => ⟨h, x⟩⟩
      simp only [this]
    · rw [if_neg h]
      have : ¬ (0 ≤ v ∧ v < n) := fun x => h x.1
      simp only [this, decide_false]
  simp only [spec_Valence.f, valG]
  refine Ep.bind0 hv (Ep.ite (fun h => ?_) (fun h => Ep.now ?_))
  · refine (specVal_loop v es hl es.length 0 0 (by omega) (by omega) (by omega)).mono ?_
    rintro _ rfl
    rw [if_pos (by simpa using h), List.drop_zero]
    omega
  · rw [if_neg (by simpa using h)]
theorem implVal_loop (v : Int) (es : List E) (hl : es.length ≤ 1048576) : ∀ (d i : Nat) (a : Int), i + d = es.length → 0 ≤ a → a ≤ i → Ep (fun k => impl_Valence.l0 k v a es (es.length : Int) (i : Int)) (· = a + val (es.drop i) v) := by
  intro d
  induction d with
  | zero =>
    intro i a hi h0 ha
    refine Ep.up ?_
    simp only [impl_Valence.l0]
    refine Ep.neg (by omega) (Ep.now ?_)
    rw [List.drop_of_length_le (by omega)]
    simp [val, sumE]
  | succ d ih =>
    intro i a hi h0 ha
    have hlt : i < es.length := by omega
    refine Ep.up ?_
    simp only [impl_Valence.l0]
    refine Ep.pos (by omega) (Ep.pos (by omega) (Ep.pos (by omega) ?_))
    rw [rdE_get hlt, wrap_succ (by omega), wrap_id (x := a + 1) (by omega) (by omega), val_drop hlt]
    refine Ep.ite (fun h => ?_) (fun h => Ep.ite (fun h2 => ?_) (fun h2 => ?_))
    · refine (ih (i + 1) (a + 1) (by omega) (by omega) (by omega)).mono ?_
      rintro _ rfl
      unfold valE
      rw [if_pos (.inl h)]
      omega
    · refine (ih (i + 1) (a + 1) (by omega) (by omega) (by omega)).mono ?_
      rintro _ rfl
      unfold valE
      rw [if_pos (.inr h2)]
      omega
    · refine (ih (i + 1) a (by omega) h0 (by omega)).mono ?_
      rintro _ rfl
      unfold valE
      rw [if_neg (by rintro (x | x); exact h x; exact h2 x)]
      omega
theorem implValence (n : Int) (es : List E) (v : Int) (hl : es.length ≤ 1048576) : Ep (fun k => impl_Valence.f k n es v) (· = valG n es v) := by
  simp only [impl_Valence.f, valG]
  refine Ep.ite (fun h => ?_) (fun h => ?_)
  · refine Ep.up ?_
    simp only [impl_Valence.j0]
    refine Ep.pos trivial (Ep.now ?_)
    rw [if_neg (by omega)]
  · refine Ep.up ?_
    simp only [impl_Valence.j0]
    refine Ep.ite (fun h2 => Ep.now ?_) (fun h2 => ?_)
    · have : v ≥ n := by simpa using h2
      rw [if_neg (by omega)]
    · have : ¬ v ≥ n := by simpa using h2
      refine (implVal_loop v es hl es.length 0 0 (by omega) (by omega) (by omega)).mono ?_
      rintro _ rfl
      rw [if_pos (by omega), List.drop_zero]
      omega
end Go.Proofs.Ytgobnfeahffnaaa.Cf
end

section
namespace Go.Proofs.Ytgobnfeahffnaaa.P
open Go.RowKit Go.Proofs.YtgobnfeahffnaaaW.PrintWords Go.Proofs.YtgobnfeahffnaaaW.PrintLast Go.Proofs.YtgobnfeahffnaaaW.PrintMore
attribute [local go_sem] max2_int min2_int max_two min_two max_three min_three max_four min_four
set_option linter.unusedVariables false
set_option linter.unusedSimpArgs false
def impl_IsStable.f (k : Nat) (a0_0 : Int) (l0_1 : List (S83)) (l1 : List Int) (a2 : Int) : Option (Bool) := (impl_PileOk.f k a0_0 l0_1 l1 a2).bind fun t102 => (if t102 = true then ((impl_unstable.f k a0_0 l0_1 l1 a2).bind fun t103 => (some (decide (t103 < 0)))) else (some false))
theorem impl_IsStable.mono : ∀ a0 a1 a2 a3 k, LeO (impl_IsStable.f k a0 a1 a2 a3) (impl_IsStable.f (k + 1) a0 a1 a2 a3) := by
 intro a0 a1 a2 a3 k; unfold impl_IsStable.f; repeat' first | (with_reducible apply impl_PileOk.mono) | (with_reducible apply impl_unstable.mono) | (with_reducible exact LeO.refl _) | (with_reducible exact LeO.none _) | (with_reducible refine LeO.ite ?_ ?_) | (with_reducible refine LeO.bind ?_ (fun _ => ?_)) | apply impl_PileOk.mono | apply impl_unstable.mono | exact LeO.none _ | refine LeO.ite ?_ ?_ | refine LeO.bind ?_ (fun _ => ?_)
end Go.Proofs.Ytgobnfeahffnaaa.P
end

section
namespace Go.Proofs.Ytgobnfeahffnaaa.Cf
set_option linter.unusedVariables false
set_option linter.unusedSimpArgs false
open Go.RowKit Go.Proofs.YtgobnfeahffnaaaW.PrintWords Go.Proofs.Ytgobnfeahffnaaa.P
/-- The first unstable vertex, from one on; or -1. -/
def unst (n : Int) (es : List E) (q : Int) (p : List Int) : Nat → Nat → Int
  | 0, _ => -1
  | d + 1, i => if (i : Int) = q then unst n es q p d (i + 1) else if rd p i ≥ valG n es i then i else unst n es q p d (i + 1)
theorem specUnst_l0 (n : Int) (es : List E) (q : Int) (p : List Int) (hel : es.length ≤ 1048576) (hl : p.length ≤ 1048576) : ∀ (d i : Nat), i + d = p.length → Ep (fun k => spec_l10Unstable.l0 k q p (p.length : Int) (i : Int) n es) (· = unst n es q p d i) := by
  intro d
  induction d with
  | zero =>
    intro i hi
    refine Ep.up ?_
    simp only [spec_l10Unstable.l0]
    exact Ep.neg (by omega) (Ep.now rfl)
  | succ d ih =>
    intro i hi
    refine Ep.up ?_
    simp only [spec_l10Unstable.l0]
    refine Ep.pos (by omega) (Ep.pos (by omega) (Ep.pos (by omega) ?_))
    rw [wrap_succ (by omega)]
    unfold unst
    refine Ep.ite (fun h => ?_) (fun h => ?_)
    · rw [if_pos h]
      exact ih (i + 1) (by omega)
    · rw [if_neg h]
      refine Ep.bind (specValence n es i hel) ?_
      rintro _ rfl
      refine Ep.ite (fun h2 => Ep.now ?_) (fun h2 => ?_)
      · rw [if_pos h2]
      · rw [if_neg h2]
        exact ih (i + 1) (by omega)
theorem specUnst (n : Int) (es : List E) (p : List Int) (q : Int) (hel : es.length ≤ 1048576) (hl : p.length ≤ 1048576) : Ep (fun k => spec_l10Unstable.f k n es p q) (· = unst n es q p p.length 0) := by
  have := specUnst_l0 n es q p hel hl p.length 0 (by omega)
  simp only [spec_l10Unstable.f]
  exact this
theorem implUnst_l0 (n : Int) (es : List E) (q : Int) (p : List Int) (hel : es.length ≤ 1048576) (hl : p.length ≤ 1048576) : ∀ (d i : Nat), i + d = p.length → Ep (fun k => impl_unstable.l0 k q p (p.length : Int) (i : Int) n es) (· = unst n es q p d i) := by
  intro d
  induction d with
  | zero =>
    intro i hi
    refine Ep.up ?_
    simp only [impl_unstable.l0]
    exact Ep.neg (by omega) (Ep.now rfl)
  | succ d ih =>
    intro i hi
    refine Ep.up ?_
    simp only [impl_unstable.l0]
    refine Ep.pos (by omega) (Ep.pos (by omega) (Ep.pos (by omega) ?_))
    rw [wrap_succ (by omega)]
    unfold unst
    refine Ep.ite (fun h => ?_) (fun h => ?_)
    · rw [if_pos h]
      exact ih (i + 1) (by omega)
    · rw [if_neg h]
      refine Ep.bind (implValence n es i hel) ?_
      rintro _ rfl
      refine Ep.ite (fun h2 => Ep.now ?_) (fun h2 => ?_)
      · rw [if_pos h2]
      · rw [if_neg h2]
        exact ih (i + 1) (by omega)
theorem implUnst (n : Int) (es : List E) (p : List Int) (q : Int) (hel : es.length ≤ 1048576) (hl : p.length ≤ 1048576) : Ep (fun k => impl_unstable.f k n es p q) (· = unst n es q p p.length 0) := by
  have := implUnst_l0 n es q p hel hl p.length 0 (by omega)
  simp only [impl_unstable.f]
  exact this
end Go.Proofs.Ytgobnfeahffnaaa.Cf
end

section
namespace Go.Proofs.Ytgobnfeahffnaaa.Cf
set_option linter.unusedVariables false
set_option linter.unusedSimpArgs false
theorem sumE_bd {es : List E} {f : E → Int} {S : Int} (h : ∀ e ∈ es, -S ≤ f e ∧ f e ≤ S) : -(es.length * S) ≤ sumE es f ∧ sumE es f ≤ es.length * S := by
  induction es with
  | nil => simp [sumE]
  | cons e r ih =>
    rw [sumE_cons]
    have := ih (fun x hx => h x (List.mem_cons_of_mem _ hx))
    have := h e List.mem_cons_self
    rw [List.length_cons, Int.natCast_succ, Int.add_mul, Int.one_mul]
    omega
theorem lap_bd {n : Int} {es : List E} (hes : ∀ e ∈ es, EOk n e) (hel : es.length ≤ 12) {s : Int → Int} {L S : Int} (hS : 0 ≤ S) (h : ∀ v, 0 ≤ v → v < n → L ≤ s v ∧ s v ≤ L + S) (w : Int) : -(12 * S) ≤ lap es s w ∧ lap es s w ≤ 12 * S := by
  have h1 := sumE_bd (es := es) (f := lapE s w) (S := S) (fun e he => by
    have hk := hes e he
    unfold EOk at hk
    have h0 := h e.f0 (by omega) (by omega)
    have h1 := h e.f1 (by omega) (by omega)
    unfold lapE
    by_cases a : e.f0 = w
    · rw [if_pos a, if_neg (by omega)]; omega
    · rw [if_neg a]
      by_cases b : e.f1 = w
      · rw [if_pos b]; omega
      · rw [if_neg b]; omega)
  have h2 : (es.length : Int) * S ≤ 12 * S := Int.mul_le_mul_of_nonneg_right (by omega) hS
  unfold lap
  omega
theorem sumN_le_const {n : Nat} {f : Nat → Int} {c : Int} (h : ∀ i, i < n → f i ≤ c) : sumN n f ≤ n * c := by
  rw [← sumN_const]
  exact sumN_le h
theorem one_nat (v t : Int) (i : Nat) : one v t (i : Int) = if (i : Int) = v then t else 0 := rfl
theorem sumN_one' {n : Nat} {v : Int} (h0 : 0 ≤ v) (h1 : v < n) (t : Int) : sumN n (fun i => one v t (i : Int)) = t := by
  have := sumN_one (n := n) v.toNat (by omega) t
  refine (sumN_congr fun i _ => ?_).trans this
  rw [one_nat]
  have : ((i : Int) = v) ↔ i = v.toNat := by omega
  simp only [this]
theorem Legal.keeps1 {n : Nat} {es : List E} (hes : ∀ e ∈ es, EOk n e) {q : Int} {p s : Int → Int} (h : Legal n es q p s) : ∀ v : Int, 0 ≤ v → v < n → 0 < s v → 0 ≤ p v - lap es s v := by
  induction h with
  | zero => intro v _ _ h; exact absurd h (by simp)
  | @step s u hl h0 h1 hq hv ih =>
    intro w k0 k1 hs
    rw [lap_add]
    by_cases e : w = u
    · subst e
      rw [lap_one_self hes]
      omega
    · rw [lap_one_ne hes e]
      have := mult_nonneg es u w
      have := ih w k0 k1 (by
        have hs' : 0 < s w + one u 1 w := hs
        unfold one at hs'
        rw [if_neg e] at hs'
        omega)
      omega
theorem Legal.bound1 {n : Nat} {es : List E} (hes : ∀ e ∈ es, EOk n e) (hj : Joined n es) {q : Int} (hq : 0 ≤ q ∧ q < n) {p s : Int → Int} (h : Legal n es q p s) {c : Int} (hc : 0 ≤ c) (hpc : ∀ v : Int, 0 ≤ v → v < n → v ≠ q → p v ≤ c) : ∀ v : Int, 0 ≤ v → v < n → s v ≤ n * (n * c) := by
  refine script_bd hes hj hq hc (by rw [h.nonneg.2]; exact Int.le_refl _) ?_
  intro v h0 h1 hs
  have hne : v ≠ q := by rintro rfl; rw [h.nonneg.2] at hs; omega
  have := h.keeps1 hes v h0 h1 hs
  have := hpc v h0 h1 hne
  omega
theorem sq_le {n : Nat} (hn : n ≤ 6) {c : Int} (hc : 0 ≤ c) : (n : Int) * (n * c) ≤ 36 * c := by
  have h1 : (n : Int) * c ≤ 6 * c := Int.mul_le_mul_of_nonneg_right (by omega) hc
  have h2 : (n : Int) * (n * c) ≤ n * (6 * c) := Int.mul_le_mul_of_nonneg_left h1 (by omega)
  have h3 : (n : Int) * (6 * c) ≤ 6 * (6 * c) := Int.mul_le_mul_of_nonneg_right (by omega) (by omega)
  omega
/-- A legal script of no more than 36 c a vertex: all in all 216 c. -/
theorem Legal.small {n : Nat} (hn : n ≤ 6) {es : List E} (hes : ∀ e ∈ es, EOk n e) (hj : Joined n es) {q : Int} (hq : 0 ≤ q ∧ q < n) {p s : Int → Int} (h : Legal n es q p s) {c : Int} (hc : 0 ≤ c) (hpc : ∀ v : Int, 0 ≤ v → v < n → v ≠ q → p v ≤ c) :
    (∀ v : Int, 0 ≤ v → v < n → 0 ≤ s v ∧ s v ≤ 36 * c) ∧ sumN n (fun i => s (i : Int)) ≤ 216 * c := by
  have h36 := sq_le hn hc
  have hb : ∀ v : Int, 0 ≤ v → v < n → 0 ≤ s v ∧ s v ≤ 36 * c := fun v h0 h1 => by
    have := h.bound1 hes hj hq hc hpc v h0 h1
    have := h.nonneg.1 v
    omega
  refine ⟨hb, ?_⟩
  have h1 := sumN_le_const (n := n) (f := fun i => s (i : Int)) (c := 36 * c) (fun i hi => (hb i (by omega) (by omega)).2)
  have h2 : (n : Int) * (36 * c) ≤ 6 * (36 * c) := Int.mul_le_mul_of_nonneg_right (by omega) (by omega)
  omega
theorem sum_grow {n : Nat} {s : Int → Int} {v : Int} (h0 : 0 ≤ v) (h1 : v < n) (t : Int) : sumN n (fun i => (fun w => s w + one v t w) (i : Int)) = sumN n (fun i => s (i : Int)) + t := by
  rw [sumN_add n (fun i => s (i : Int)) (fun i => one v t (i : Int)), sumN_one' h0 h1]
structure Sets (n : Nat) (es : List E) (q : Int) (d u : Int → Int) : Prop where
  pos : ∀ w, 0 ≤ u w
  at_q : u q = 0
  keeps : ∀ v : Int, 0 ≤ v → v < n → v ≠ q → 0 ≤ d v - lap es u v
theorem Sets.zero {n : Nat} {es : List E} {q : Int} {d : Int → Int} (h : ∀ v : Int, 0 ≤ v → v < n → v ≠ q → 0 ≤ d v) : Sets n es q d (fun _ => 0) where
  pos := fun _ => Int.le_refl _
  at_q := rfl
  keeps := fun v h0 h1 h2 => by
    rw [lap_const (c := 0) (fun _ _ => ⟨rfl, rfl⟩)]
    have := h v h0 h1 h2
    omega
end Go.Proofs.Ytgobnfeahffnaaa.Cf
end

section
namespace Go.Proofs.Ytgobnfeahffnaaa.Cf
set_option linter.unusedVariables false
set_option linter.unusedSimpArgs false
open Go.Proofs.YtgobnfeahffnaaaW.PrintWords
theorem rd_set {x : List Int} {i : Int} (h0 : 0 ≤ i) (h1 : i < x.length) (y : Int) {w : Int} (hw : 0 ≤ w) : rd (x.set i.toNat y) w = if w = i then y else rd x w := by
  obtain ⟨a, rfl⟩ := Int.eq_ofNat_of_zero_le h0
  obtain ⟨b, rfl⟩ := Int.eq_ofNat_of_zero_le hw
  simp only [Int.ofNat_eq_natCast, Int.toNat_natCast, rd_nat, List.getD_eq_getElem?_getD] at *
  by_cases c : b = a
  · subst c
    rw [List.getElem?_set_self (by omega), if_pos rfl]
    rfl
  · rw [List.getElem?_set_ne (fun y => c y.symm), if_neg (by omega)]
/-- A list's numbers lie between -B and B. -/
def Bd (x : List Int) (B : Int) : Prop := ∀ w : Int, 0 ≤ w → w < x.length → -B ≤ rd x w ∧ rd x w ≤ B
theorem Bd.mono {x : List Int} {B B' : Int} (h : Bd x B) (hB : B ≤ B') : Bd x B' := fun w h0 h1 => by have := h w h0 h1; omega
theorem Bd.of60 {p : List Int} (h : ∀ x ∈ p, -60 ≤ x ∧ x ≤ 60) : Bd p 60 := fun w h0 h1 => by
  obtain ⟨i, rfl⟩ := Int.eq_ofNat_of_zero_le h0
  have hi : i < p.length := by omega
  rw [rd_get hi]
  exact h _ (List.getElem_mem hi)
/-- x is d, less what the script s takes over these edges. -/
def Less (es : List E) (d : List Int) (s : Int → Int) (x : List Int) : Prop := x.length = d.length ∧ ∀ w : Int, 0 ≤ w → w < d.length → rd x w = rd d w - lap es s w
theorem lap_snoc (es : List E) (e : E) (s : Int → Int) (w : Int) : lap (es ++ [e]) s w = lap es s w + lapE s w e := by
  induction es with
  | nil => simp [lap, sumE]
  | cons a r ih => rw [List.cons_append, lap_cons, ih, lap_cons]; omega
theorem lap_take {es : List E} {i : Nat} (h : i < es.length) (s : Int → Int) (w : Int) : lap (es.take (i + 1)) s w = lap (es.take i) s w + lapE s w es[i] := by
  rw [List.take_succ_eq_append_getElem h, lap_snoc]
/-- The list c tells s on the first n numbers. -/
def Rep (n : Nat) (c : List Int) (s : Int → Int) : Prop := c.length = n ∧ ∀ w : Int, 0 ≤ w → w < n → rd c w = s w
theorem Rep.ext {n : Nat} {c c' : List Int} {s : Int → Int} (h : Rep n c s) (h' : Rep n c' s) : c = c' := by
  apply List.ext_getElem (by rw [h.1, h'.1])
  intro i h1 h2
  have e := h.2 i (by omega) (by have := h.1; omega)
  have e' := h'.2 i (by omega) (by have := h.1; omega)
  rw [rd_get h1] at e
  rw [rd_get h2] at e'
  rw [e, e']
theorem Rep.congr {n : Nat} {c : List Int} {s t : Int → Int} (h : Rep n c s) (he : ∀ w : Int, 0 ≤ w → w < n → s w = t w) : Rep n c t := ⟨h.1, fun w h0 h1 => (h.2 w h0 h1).trans (he w h0 h1)⟩
theorem Rep.self {n : Nat} {c : List Int} (h : c.length = n) : Rep n c (rd c) := ⟨h, fun _ _ _ => rfl⟩
theorem Rep.set {n : Nat} {c : List Int} {s : Int → Int} (h : Rep n c s) {v : Int} (h0 : 0 ≤ v) (h1 : v < n) (y : Int) : Rep n (c.set v.toNat y) (fun w => if w = v then y else s w) := by
  refine ⟨by rw [List.length_set]; exact h.1, fun w w0 w1 => ?_⟩
  rw [rd_set h0 (by rw [h.1]; exact h1) y w0, h.2 w w0 w1]
theorem rd_replicate (n : Nat) (v : Int) : rd (List.replicate n (0 : Int)) v = 0 := by
  unfold rd
  rw [List.getD_eq_getElem?_getD]
  by_cases h : v.toNat < n
  · rw [List.getElem?_replicate_of_lt h]; rfl
  · rw [List.getElem?_eq_none (by simp; omega)]; rfl
theorem Rep.zero (n : Nat) : Rep n (List.replicate n (0 : Int)) (fun _ => 0) := ⟨by simp, fun w _ _ => rd_replicate n w⟩
/-- The list of a function's first n values. -/
def repL (n : Nat) (f : Int → Int) : List Int := (List.range n).map fun i : Nat => f (i : Int)
theorem repL_len (n : Nat) (f : Int → Int) : (repL n f).length = n := by simp [repL]
theorem repL_rep (n : Nat) (f : Int → Int) : Rep n (repL n f) f := by
  refine ⟨by simp [repL], fun w h0 h1 => ?_⟩
  obtain ⟨a, rfl⟩ := Int.eq_ofNat_of_zero_le h0
  rw [rd_get (by simp [repL]; omega)]
  simp [repL]
theorem Rep.eq {n : Nat} {c : List Int} {s : Int → Int} (h : Rep n c s) : c = repL n s := h.ext (repL_rep n s)
theorem Rep.bd {n : Nat} {c : List Int} {s : Int → Int} {B : Int} (h : Rep n c s) (hb : ∀ w : Int, 0 ≤ w → w < n → -B ≤ s w ∧ s w ≤ B) : Bd c B := fun w h0 h1 => by
  rw [h.2 w h0 (by have := h.1; omega)]
  exact hb w h0 (by have := h.1; omega)
theorem Less.rep {n : Nat} {es : List E} {d x : List Int} {s : Int → Int} (hd : d.length = n) (h : Less es d s x) : Rep n x (fun w => rd d w - lap es s w) := ⟨h.1.trans hd, fun w h0 h1 => h.2 w h0 (by omega)⟩
/-- What toppling off q ends in, and how often each vertex toppled. -/
def Settled (n : Nat) (es : List E) (q : Int) (p : List Int) (r : List Int × List Int) : Prop :=
  ∃ s : Int → Int, Legal n es q (rd p) s ∧ Stable n es q (fun v => rd p v - lap es s v) ∧ Rep n r.1 (fun w => if w = q then 0 else rd p w - lap es s w) ∧ Rep n r.2 s
theorem Settled.unique {n : Nat} {es : List E} {q : Int} {p : List Int} {r r' : List Int × List Int} (h : Settled n es q p r) (h' : Settled n es q p r') : r = r' := by
  obtain ⟨s, h1, h2, h3, h4⟩ := h
  obtain ⟨t, k1, k2, k3, k4⟩ := h'
  obtain rfl := h1.unique k1 h2 k2
  exact Prod.ext (h3.ext k3) (h4.ext k4)
open Classical in
noncomputable def settleS (n : Nat) (es : List E) (q : Int) (p : List Int) : List Int × List Int := if h : ∃ r, Settled n es q p r then Classical.choose h else ([], [])
theorem Settled.eq {n : Nat} {es : List E} {q : Int} {p : List Int} {r : List Int × List Int} (h : Settled n es q p r) : r = settleS n es q p := by
  have he : ∃ r, Settled n es q p r := ⟨r, h⟩
  unfold settleS
  rw [dif_pos he]
  exact h.unique (Classical.choose_spec he)
theorem settleS_len {n : Nat} (es : List E) (q : Int) (p : List Int) (hn : n ≤ 6) : (settleS n es q p).1.length ≤ 6 ∧ (settleS n es q p).2.length ≤ 6 := by
  unfold settleS
  split
  · rename_i he
    obtain ⟨s, _, _, h3, h4⟩ := Classical.choose_spec he
    rw [h3.1, h4.1]
    exact ⟨hn, hn⟩
  · simp
end Go.Proofs.Ytgobnfeahffnaaa.Cf
end

