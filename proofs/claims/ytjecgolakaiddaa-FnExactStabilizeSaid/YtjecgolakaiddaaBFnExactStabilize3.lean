/- A part of the proof of FnExactStabilize. -/
import Derived.Test.YtjecgolakaiddaaBFnExactStabilize2
import Derived.Test.YtjecgolakaiddaaBFnExactStabilize0
import Derived.Test.YtjecgolakaiddaaBFnExactStabilize1
section
namespace Go.Proofs.Ytjecgolakaiddaa.P
open Go.RowKit Go.Proofs.YtjecgolakaiddaaW.PrintWords Go.Proofs.YtjecgolakaiddaaW.PrintLast Go.Proofs.YtjecgolakaiddaaW.PrintMore
attribute [local go_sem] max2_int min2_int max_two min_two max_three min_three max_four min_four
set_option linter.unusedVariables false
set_option linter.unusedSimpArgs false
def impl_fire.l0 : Nat → List Int → Int → Int → List (S70) → Int → Int → Option (List Int)
  | 0, _, _, _, _, _, _ => none
  | k + 1, x1, x2, x3, x11, x12, x13 => if x13 < x12 then (if 0 ≤ x13 then (if x13 < (x11.length : Int) then (if x2 = ((rd_T70 x11 x13).f0) then (if 0 ≤ x2 then (if x2 < (x1.length : Int) then ((some (x1.set (x2 : Int).toNat (wrap64 ((rd x1 x2) - x3)) : List Int)).bind fun y105 => (if 0 ≤ ((rd_T70 x11 x13).f1) then (if ((rd_T70 x11 x13).f1) < (x1.length : Int) then (impl_fire.l0 k (y105.set (((rd_T70 x11 x13).f1) : Int).toNat (wrap64 ((rd y105 ((rd_T70 x11 x13).f1)) + x3))) x2 x3 x11 x12 (wrap64 (x13 + 1))) else (none)) else (none))) else (none)) else (none)) else (if x2 = ((rd_T70 x11 x13).f1) then (if 0 ≤ x2 then (if x2 < (x1.length : Int) then ((some (x1.set (x2 : Int).toNat (wrap64 ((rd x1 x2) - x3)) : List Int)).bind fun y109 => (if 0 ≤ ((rd_T70 x11 x13).f0) then (if ((rd_T70 x11 x13).f0) < (x1.length : Int) then (impl_fire.l0 k (y109.set (((rd_T70 x11 x13).f0) : Int).toNat (wrap64 ((rd y109 ((rd_T70 x11 x13).f0)) + x3))) x2 x3 x11 x12 (wrap64 (x13 + 1))) else (none)) else (none))) else (none)) else (none)) else (impl_fire.l0 k x1 x2 x3 x11 x12 (wrap64 (x13 + 1))))) else (none)) else (none)) else (some x1)
def impl_fire.f (k : Nat) (a0_0 : Int) (l0_1 : List (S70)) (l1 : List Int) (a2 : Int) (a3 : Int) : Option (List Int) := impl_fire.l0 k l1 a2 a3 l0_1 (l0_1.length : Int) 0
theorem impl_fire.mono_l : ∀ k, (∀ y0 y1 y2 y3 y4 y5, LeO (impl_fire.l0 k y0 y1 y2 y3 y4 y5) (impl_fire.l0 (k + 1) y0 y1 y2 y3 y4 y5))
  | 0 => fun _ _ _ _ _ _ r h => by simp [impl_fire.l0] at h
  | k + 1 => by
    have ih0 := impl_fire.mono_l k
    · intro y0 y1 y2 y3 y4 y5
      unfold impl_fire.l0
      repeat' first
      | (with_reducible exact ih0 _ _ _ _ _ _)
      | (with_reducible exact LeO.refl _)
      | (with_reducible exact LeO.none _)
      | (with_reducible refine LeO.ite ?_ ?_)
      | (with_reducible refine LeO.bind ?_ (fun _ => ?_))
      | exact ih0 _ _ _ _ _ _
      | exact LeO.none _
      | refine LeO.ite ?_ ?_
      | refine LeO.bind ?_ (fun _ => ?_)
theorem impl_fire.mono : ∀ a0 a1 a2 a3 a4 k, LeO (impl_fire.f k a0 a1 a2 a3 a4) (impl_fire.f (k + 1) a0 a1 a2 a3 a4) := by
  intro a0 a1 a2 a3 a4 k; have ih0 := impl_fire.mono_l k; unfold impl_fire.f
  repeat' first
      | (with_reducible exact ih0 _ _ _ _ _ _)
      | (with_reducible exact LeO.refl _)
      | (with_reducible exact LeO.none _)
      | (with_reducible refine LeO.ite ?_ ?_)
      | (with_reducible refine LeO.bind ?_ (fun _ => ?_))
      | exact ih0 _ _ _ _ _ _
      | exact LeO.none _
      | refine LeO.ite ?_ ?_
      | refine LeO.bind ?_ (fun _ => ?_)
set_option maxHeartbeats 8000000 in
set_option maxRecDepth 100000 in
theorem impl_fire.calls (k : Nat) (a0_0 : Int) (A0_1 : Option Addr) (c0_1 : Nat) (l0_1 : List (S70)) (P1_ : Nat → Prop) (u9000_ : Value) (l1 : List Int) (a2 : Int) (a3 : Int) (r : List Int) (w0 w : World) (hB : Below w0.heap.size w0 w) (hr0_1 : ∀ W_, Kept w W_ (fun k_ => P1_ k_) → Kd.C k70 W_ A0_1 l0_1.length l0_1) (hc0_1 : l0_1.length ≤ c0_1) (ho1 : Kd.R (Kd.int .i64) 3 w w0.heap.size P1_ u9000_ l1) (h : impl_fire.f k a0_0 l0_1 l1 a2 a3 = some r) :
    Calls Try.prog 137 #[.agg #[.int .i64 a0_0, .slice A0_1 l0_1.length c0_1], u9000_, .int .i64 a2, .int .i64 a3] w fun e w' => e = .returned (.tuple #[]) ∧ Kd.R (Kd.int .i64) 3 w' w0.heap.size (fun k_ => (P1_ k_ ∨ w.heap.size ≤ k_)) u9000_ r ∧ Below w0.heap.size w0 w' ∧ Kept w w' (fun k_ => P1_ k_) := by
  have hu38 := Try.underlying38; have hu70 := Try.underlying70; have HR0_1 := Aside0.mk hr0_1; have HC0_1 := Aside0.mk hc0_1; clear hr0_1 hc0_1; have HO1 := Aside0.mk (show Kd.R (Kd.int .i64) 3 w w0.heap.size (fun k_ => (P1_ k_ ∨ w.heap.size ≤ k_)) u9000_ l1 from Kd.R_mono ho1 (fun k_ hk => (.inl hk))); have HK := Aside0.mk (Kept.refl w (fun k_ => P1_ k_)); have HW0 := Aside0.mk hB.size; have HB := Aside0.mk hB; clear hB; have H : (impl_fire.l0 k l1 a2 a3 l0_1 (l0_1.length : Int) 0) = some r := h; clear h; have H' := Aside0.mk H; clear H; go_enter Try.func137, Try.ntmps137; (go_wp2_with (first | ((with_reducible refine gate_dst (N := 4) rfl ?_); refine box_event ?hg (N := 4) ?hd (cs := #[.int .i64 a0_0, .slice A0_1 l0_1.length c0_1]) (t := 38) ?hr ?_; (case hd => rfl); (case hg => rfl); (case hr => first | (go_simp; done) | (go_simp; rfl)); intro gb101 hg w5 hbox hb; have n0_ := Aside0.mk (Kd.R_below (by (with_reducible repeat (first | apply Kd.R_alloc | apply Kd.R_drewN | apply Kd.R_drew)); exact HO1.out) hb); have n1_ := Aside0.mk (Kept.below (S := (fun k_ => P1_ k_)) (by repeat (first | (with_reducible first | exact HK.out | apply Kept.alloc | apply Kept.drewN | apply Kept.drew) | exact HK.out)) hb); have n2_ := Aside0.mk (below_step zz1 hb); have n3_ := Aside0.mk (hbox); have n4_ := Aside0.mk ((by rw [hg]; exact (by first | exact HK.out.1 | exact (show Kept w _ (fun k_ => P1_ k_) from by repeat (first | (with_reducible first | exact HK.out | apply Kept.alloc | apply Kept.drewN | apply Kept.drew) | exact HK.out)).1) : w.heap.size ≤ gb101)); have n5_ := Aside0.mk ((zz7 : w0.heap.size ≤ gb101)); clear HO1; clear HK; clear HB; have HO1 := n0_; have HK := n1_; have HB := n2_; have BK101 := n3_; have GW101 := n4_; have GE101 := n5_; clear n0_ n1_ n2_ n3_ n4_ n5_; clear hb hbox hg; have hcz6_0 : w5.cell? ⟨gb101, 0, none⟩ = some (.int .i64 a0_0) := (blk_cell BK101.out 0).trans rfl; have hcz6_1 : w5.cell? ⟨gb101, 1, none⟩ = some (.slice A0_1 l0_1.length c0_1) := (blk_cell BK101.out 1).trans rfl; have hfz6_0 := blk_frozen BK101.out 0; have hfz6_1 := blk_frozen BK101.out 1))); (go_loopg [13] k (fun kq v13 w' => ∃ (x1_1 : List Int) (x13_1 : Int), v13 = .int .i64 x13_1 ∧ Aside0 (impl_fire.l0 kq x1_1 a2 a3 l0_1 (l0_1.length : Int) x13_1 = some r) ∧ Aside0 (kq ≤ k) ∧ Aside0 (Kd.R (Kd.int .i64) 3 w' w0.heap.size (fun k_ => (P1_ k_ ∨ w.heap.size ≤ k_)) u9000_ x1_1) ∧ Aside0 (w'.heap[gb101]? = some (.cells #[.int .i64 a0_0, (.slice A0_1 l0_1.length c0_1)] 38 (0, 0))) ∧ Aside0 (Kept w w' (fun k_ => P1_ k_)) ∧ Aside0 (Below w0.heap.size w0 w'))); case atStart => exact ⟨(l1), (0), zz6, H', ⟨Nat.le_refl _⟩, ⟨by (with_reducible repeat (first | apply Kd.R_alloc | apply Kd.R_drewN | apply Kd.R_drew)); exact HO1.out⟩, ⟨by (with_reducible repeat (first | refine blk_drewN ?_ _ | refine blk_drew ?_ | refine blk_alloc ?_ _)); exact BK101.out⟩, ⟨by repeat (first | (with_reducible first | exact HK.out | apply Kept.alloc | apply Kept.drewN | apply Kept.drew | refine Kept.setCell ?_ (.inr GW101.out) _) | exact HK.out)⟩, ⟨by repeat (first | (with_reducible first | exact HB.out | apply below_alloc | apply pw_below_drewN | apply below_drew1 | refine below_set ?_ GE101.out) | exact HB.out)⟩⟩
  case round =>
    clear H'; (try clear c1); (try clear p2); (try clear hcz6_0); (try clear hcz6_1); (try clear hfz6_0); (try clear hfz6_1); obtain ⟨x1_1, x13_1, rfl, HA, HK1, HO_1, BK101, HK, HB⟩ := hrel
    cases gk with
    | zero => exact absurd HA.out (by simp [impl_fire.l0])
    | succ k1 =>
      have H := HA.out; clear HA; simp only [impl_fire.l0] at H; by_cases c7 : x13_1 < (l0_1.length : Int); rotate_left
      · rw [if_neg c7] at H; have c7b0 : decide (x13_1 < (l0_1.length : Int)) = false := decide_eq_false c7; clear c7; obtain rfl := Option.some.inj H; go_wp2; (first | go_end0 | ((try simp only [Exit.inBlock, Exit.then]); refine bodyPost_ret (results_none rfl _ _ _) rfl ?_)); exact ⟨by first | rfl | (simp [errW_none, errW_some] <;> rfl) | (simp [*, errW_none, errW_some] <;> rfl), by (with_reducible repeat (first | apply Kd.R_alloc | apply Kd.R_drewN | apply Kd.R_drew)); exact HO_1.out, by repeat (first | (with_reducible first | exact HB.out | apply below_alloc | apply pw_below_drewN | apply below_drew1 | refine below_set ?_ GE101.out) | exact HB.out), by repeat (first | (with_reducible first | exact HK.out | apply Kept.alloc | apply Kept.drewN | apply Kept.drew | refine Kept.setCell ?_ (.inr GW101.out) _) | exact HK.out)⟩
      rw [if_pos c7] at H; have c7b0 : decide (x13_1 < (l0_1.length : Int)) = true := decide_eq_true c7; clear c7; by_cases c8 : 0 ≤ x13_1; rotate_left
      · rw [if_neg c8] at H; exact absurd H (by simp)
      rw [if_pos c8] at H; have c8b0 : decide (0 ≤ x13_1) = true := decide_eq_true c8; clear c8; by_cases c9 : x13_1 < (l0_1.length : Int); rotate_left
      · rw [if_neg c9] at H; exact absurd H (by simp)
      rw [if_pos c9] at H; have c9b0 : decide (x13_1 < (l0_1.length : Int)) = true := decide_eq_true c9; clear c9; by_cases c10 : a2 = ((rd_T70 l0_1 x13_1).f0)
      · rw [if_pos c10] at H; have c10b0 : (a2 == ((rd_T70 l0_1 x13_1).f0)) = true := beq_iff_eq.mpr c10; have c10b1 : (a2 != ((rd_T70 l0_1 x13_1).f0)) = false := bne_eq_false_iff_eq.mpr c10; clear c10; by_cases c11 : 0 ≤ a2; rotate_left
        · rw [if_neg c11] at H; exact absurd H (by simp)
        rw [if_pos c11] at H; have c11b0 : decide (0 ≤ a2) = true := decide_eq_true c11; clear c11; by_cases c12 : a2 < (x1_1.length : Int); rotate_left
        · rw [if_neg c12] at H; exact absurd H (by simp)
        rw [if_pos c12] at H; have c12b0 : decide (a2 < (x1_1.length : Int)) = true := decide_eq_true c12; clear c12; obtain ⟨y105, hy105⟩ : ∃ y_ : List Int, y_ = (x1_1.set (a2 : Int).toNat (wrap64 ((rd x1_1 a2) - a3))) := ⟨_, rfl⟩; (replace H : (if 0 ≤ ((rd_T70 l0_1 x13_1).f1) then (if ((rd_T70 l0_1 x13_1).f1) < (x1_1.length : Int) then (impl_fire.l0 k1 (y105.set (((rd_T70 l0_1 x13_1).f1) : Int).toNat (wrap64 ((rd y105 ((rd_T70 l0_1 x13_1).f1)) + a3))) a2 a3 l0_1 (l0_1.length : Int) (wrap64 (x13_1 + 1))) else (none)) else (none)) = some r := by first | (rw [hy105]; with_reducible exact H) | (have H2_ := (Option.bind_some _ _).symm.trans H; rw [hy105]; with_reducible exact H2_) | (have H2_ := (Option.bind_some _ _).symm.trans H; with_reducible exact H2_) | with_reducible exact H | (rw [hy105]; exact H) | exact H); have Ny105 := Aside0.mk hy105; clear hy105; by_cases c14 : 0 ≤ ((rd_T70 l0_1 x13_1).f1); rotate_left
        · rw [if_neg c14] at H; exact absurd H (by simp)
        rw [if_pos c14] at H; have c14b0 : decide (0 ≤ ((rd_T70 l0_1 x13_1).f1)) = true := decide_eq_true c14; clear c14; by_cases c15 : ((rd_T70 l0_1 x13_1).f1) < (x1_1.length : Int); rotate_left
        · rw [if_neg c15] at H; exact absurd H (by simp)
        rw [if_pos c15] at H; have c15b0 : decide (((rd_T70 l0_1 x13_1).f1) < (x1_1.length : Int)) = true := decide_eq_true c15; clear c15; obtain ⟨y107, hy107⟩ : ∃ y_ : List Int, y_ = (y105.set (((rd_T70 l0_1 x13_1).f1) : Int).toNat (wrap64 ((rd y105 ((rd_T70 l0_1 x13_1).f1)) + a3))) := ⟨_, rfl⟩; (replace H : (impl_fire.l0 k1 y107 a2 a3 l0_1 (l0_1.length : Int) (wrap64 (x13_1 + 1))) = some r := by first | (rw [hy107]; with_reducible exact H) | (have H2_ := (Option.bind_some _ _).symm.trans H; rw [hy107]; with_reducible exact H2_) | (have H2_ := (Option.bind_some _ _).symm.trans H; with_reducible exact H2_) | with_reducible exact H | (rw [hy107]; exact H) | exact H); have Ny107 := Aside0.mk hy107; clear hy107; have H' := Aside0.mk H; clear H; have p102 : 0 ≤ (x13_1 : Int) := of_decide_eq_true zz4; have q102 : x13_1 < (l0_1.length : Int) := of_decide_eq_true zz4; obtain ⟨ad102, e102, hx102_0, hx102_1⟩ := at_T70 (Kd.C_kept_now HR0_1.out HK.out) x13_1 p102 q102; cases e102; replace p102 := eq_true p102; replace q102 := eq_true q102; (go_wp2_with (first | ((with_reducible refine gate_dst (N := 9) rfl ?_); refine box_event ?hg (N := 9) ?hd (cs := #[.int .i64 0, .int .i64 0]) (t := 70) ?hr ?_; (case hd => rfl); (case hg => rfl); (case hr => first | (go_simp; done) | (go_simp; rfl)); intro gb103 hg w17 hbox hb; have n0_ := Aside0.mk (Kd.R_below (by (with_reducible repeat (first | apply Kd.R_alloc | apply Kd.R_drewN | apply Kd.R_drew)); exact HO_1.out) hb); have n1_ := Aside0.mk (blk_below (g := gb101) (o := .cells #[.int .i64 a0_0, .slice (some ad102) l0_1.length c0_1] 38 (0, 0)) zz2 hb); have n2_ := Aside0.mk (Kept.below (S := (fun k_ => P1_ k_)) (by repeat (first | (with_reducible first | exact HK.out | apply Kept.alloc | apply Kept.drewN | apply Kept.drew | refine Kept.setCell ?_ (.inr GW101.out) _) | exact HK.out)) hb); have n3_ := Aside0.mk (below_step zz0 hb); have n4_ := Aside0.mk (hbox); have n5_ := Aside0.mk ((by rw [hg]; exact (by first | exact HK.out.1 | exact (show Kept w _ (fun k_ => P1_ k_) from by repeat (first | (with_reducible first | exact HK.out | apply Kept.alloc | apply Kept.drewN | apply Kept.drew | refine Kept.setCell ?_ (.inr GW101.out) _) | exact HK.out)).1) : w.heap.size ≤ gb103)); have n6_ := Aside0.mk ((zz9 : w0.heap.size ≤ gb103)); have n7_ := Aside0.mk ((zz25 : gb101 ≠ gb103)); have n8_ := Aside0.mk ((zz26 : gb103 ≠ gb101)); clear HO_1; clear BK101; clear HK; clear HB; have HO_1 := n0_; have BK101 := n1_; have HK := n2_; have HB := n3_; have BK103 := n4_; have GW103 := n5_; have GE103 := n6_; have NB101_103 := n7_; have NB103_101 := n8_; clear n0_ n1_ n2_ n3_ n4_ n5_ n6_ n7_ n8_; clear hb hbox hg; have hnb18 := NB103_101.out; have hnc18 := NB101_103.out; have hcz19_0 : w17.cell? ⟨gb103, 0, none⟩ = some (.int .i64 0) := (blk_cell BK103.out 0).trans rfl; have hcz19_1 : w17.cell? ⟨gb103, 1, none⟩ = some (.int .i64 0) := (blk_cell BK103.out 1).trans rfl; have hfz19_0 := blk_frozen BK103.out 0; have hfz19_1 := blk_frozen BK103.out 1) | ((with_reducible refine gate_store (t := 70) (p := 9) rfl ?_); refine store_event (t := 70) (p := 9) (v := ?vo_w20) (w1 := ((w17.setCell ⟨gb103, 0, none⟩ (.int .i64 ((rd_T70 l0_1 x13_1).f0))).setCell ⟨gb103, 1, none⟩ (.int .i64 ((rd_T70 l0_1 x13_1).f1)))) ?hg ?ho ?hn ?hr ?_; (case ho => rfl); (case hg => rfl); (case hn => rfl); (case hr => first | (go_simp; done) | (go_simp; rfl)); intro w20 hw; have n0_ : Aside0 (Kd.R (Kd.int .i64) 3 w20 w0.heap.size (fun k_ => (P1_ k_ ∨ w.heap.size ≤ k_)) u9000_ x1_1) := ⟨zz35⟩; have n1_ : Aside0 (w20.heap[gb101]? = some (.cells #[.int .i64 a0_0, .slice (some ad102) l0_1.length c0_1] 38 (0, 0))) := ⟨zz34⟩; have n2_ : Aside0 (w20.heap[gb103]? = some (.cells #[.int .i64 ((rd_T70 l0_1 x13_1).f0), .int .i64 ((rd_T70 l0_1 x13_1).f1)] 70 (0, 0))) := ⟨zz28⟩; have n3_ : Aside0 (Kept w w20 (fun k_ => P1_ k_)) := ⟨(by rw [hw]; exact (by repeat (first | (with_reducible first | exact HK.out | apply Kept.alloc | apply Kept.drewN | apply Kept.drew | refine Kept.setCell ?_ (.inr GW101.out) _ | refine Kept.setCell ?_ (.inr GW103.out) _) | exact HK.out)))⟩; have n4_ : Aside0 (Below w0.heap.size w0 w20) := ⟨(by rw [hw]; exact (by repeat (first | (with_reducible first | exact HB.out | apply below_alloc | apply pw_below_drewN | apply below_drew1 | refine below_set ?_ GE101.out | refine below_set ?_ GE103.out) | exact HB.out)))⟩; clear hw; clear HO_1; clear BK101; clear BK103; clear HK; clear HB; have HO_1 := n0_; have BK101 := n1_; have BK103 := n2_; have HK := n3_; have HB := n4_; clear n0_ n1_ n2_ n3_ n4_; have hcz21_0 : w20.cell? ⟨gb103, 0, none⟩ = some (.int .i64 ((rd_T70 l0_1 x13_1).f0)) := (blk_cell BK103.out 0).trans rfl; have hcz21_1 : w20.cell? ⟨gb103, 1, none⟩ = some (.int .i64 ((rd_T70 l0_1 x13_1).f1)) := (blk_cell BK103.out 1).trans rfl; have hfz21_0 := blk_frozen BK103.out 0; have hfz21_1 := blk_frozen BK103.out 1; obtain ⟨Ao22, co22, eo22⟩ := Kd.R_slice HO_1.out; subst eo22; have p104 : 0 ≤ (a2 : Int) := of_decide_eq_true zz4; have q104 : a2 < (x1_1.length : Int) := of_decide_eq_true zz4; obtain ⟨ad104, e104, hx104_0⟩ := Kd.at_int (Kd.R_reads' HO_1.out).2.2 a2 p104 q104; cases e104; replace p104 := eq_true p104; replace q104 := eq_true q104; have p13 : 0 ≤ (a2 : Int) := of_decide_eq_true zz4; have q13 : (a2 : Int) < ((x1_1.length : Int) : Int) := of_decide_eq_true zz4; obtain ⟨go13, co13, eo13, gb13, gl13, cl13, HG13⟩ := Kd.R_form HO_1.out (by omega); (first | cases eo13 | (injection eo13 with ea_ en_ ec_; (first | subst ea_ | (injection ea_ with ea_; subst ea_)); subst ec_; clear en_)); have GB13 := Aside0.mk gb13; have GG13 := Aside0.mk HG13; clear gb13 gl13 HG13; have HMgo13 := Aside0.mk (show (P1_ go13 ∨ w.heap.size ≤ go13) from (HO_1.out.1 _ rfl)); (first | simp only [add_plain] at hx104_0 | skip); obtain ⟨hx13_0, hf13_0⟩ := Kd.R_celln 0 HO_1.out (a2 : Int) p13 q13; replace p13 := eq_true p13; replace q13 := eq_true q13; obtain ⟨hy23_, hz23_⟩ := Kd.R_celln 0 HO_1.out (a2 : Int) (of_decide_eq_true zz4) (of_decide_eq_true zz4); have HP23 := Kd.R_putg HO_1.out (a2 : Int) (wrap64 ((rd x1_1 a2) - a3))) | ((with_reducible refine gate_store (t := 3) (p := 28) rfl ?_); refine store_event (t := 3) (p := 28) (v := ?vo_w24) (w1 := (w20.setCell ⟨go13, (a2 : Int).toNat, none⟩ (.int .i64 (wrap64 ((rd x1_1 a2) - a3))))) ?hg ?ho ?hn ?hr ?_; (case ho => rfl); (case hg => rfl); (case hn => rfl); (case hr => first | (go_simp; done) | (go_simp; rfl)); intro w24 hw; have hg : w20.grownBy w24 (some go13) := (by rw [hw]; exact HP23.2); have hp_ : Kd.R (Kd.int .i64) 3 w24 w0.heap.size (fun k_ => (P1_ k_ ∨ w.heap.size ≤ k_)) (.slice (some ⟨go13, 0, none⟩) x1_1.length co22) y105 := (by rw [hw, Ny105.out]; exact HP23.1); clear HP23; have n0_ := Aside0.mk (hp_); have n1_ := Aside0.mk (blk_grown (g := gb101) (o := .cells #[.int .i64 a0_0, .slice (some ad102) l0_1.length c0_1] 38 (0, 0)) zz2 hg (Kd.R_ne HO_1.out BK101.out (by decide))); have n2_ := Aside0.mk (blk_grown (g := gb103) (o := .cells #[.int .i64 ((rd_T70 l0_1 x13_1).f0), .int .i64 ((rd_T70 l0_1 x13_1).f1)] 70 (0, 0)) zz36 hg (Kd.R_ne HO_1.out BK103.out (by decide))); have n3_ := Aside0.mk ((by rw [hw]; exact below_set (HB.out) GB13.out : Below w0.heap.size w0 w24)); have n4_ := Aside0.mk (Kept.of_grown (S := (fun k_ => P1_ k_)) hg (by repeat (first | (with_reducible first | exact HK.out | apply Kept.alloc | apply Kept.drewN | apply Kept.drew | refine Kept.setCell ?_ (.inr GW101.out) _ | refine Kept.setCell ?_ (.inr GW103.out) _) | exact HK.out)) (fun k_ e_ => (HO_1.out.1 k_ e_))); clear HO_1; clear BK101; clear BK103; clear HB; clear HK; have HO_1 := n0_; have BK101 := n1_; have BK103 := n2_; have HB := n3_; have HK := n4_; clear n0_ n1_ n2_ n3_ n4_; clear hg hw hp_; have hcz25_0 : w24.cell? ⟨gb103, 0, none⟩ = some (.int .i64 ((rd_T70 l0_1 x13_1).f0)) := (blk_cell BK103.out 0).trans rfl; have hcz25_1 : w24.cell? ⟨gb103, 1, none⟩ = some (.int .i64 ((rd_T70 l0_1 x13_1).f1)) := (blk_cell BK103.out 1).trans rfl; have hfz25_0 := blk_frozen BK103.out 0; have hfz25_1 := blk_frozen BK103.out 1; have p106 : 0 ≤ (((rd_T70 l0_1 x13_1).f1) : Int) := of_decide_eq_true zz4; have q106 : ((rd_T70 l0_1 x13_1).f1) < (y105.length : Int) := (by have h_ : (((rd_T70 l0_1 x13_1).f1) : Int) < ((x1_1.length : Int) : Int) := of_decide_eq_true zz4; first | (have e_ := (Kd.R_reads' HO_1.out).1; omega) | simpa only [Ny105.out, List.length_set] using h_); have ql106 : ((((rd_T70 l0_1 x13_1).f1) : Int) < ((x1_1.length : Int) : Int)) = True := eq_true (of_decide_eq_true zz4); obtain ⟨ad106, e106, hx106_0⟩ := Kd.at_int (Kd.R_reads' HO_1.out).2.2 ((rd_T70 l0_1 x13_1).f1) p106 q106; obtain rfl : (⟨go13, 0, none⟩ : Addr) = ad106 := (by injection e106); (first | simp only [add_plain] at hx106_0 | simp only [add_at] at hx106_0 | simp only [Addr.add, Nat.zero_add] at hx106_0 | skip); replace p106 := eq_true p106; replace q106 := eq_true q106; have p16 : 0 ≤ (((rd_T70 l0_1 x13_1).f1) : Int) := of_decide_eq_true zz4; have q16 : (((rd_T70 l0_1 x13_1).f1) : Int) < ((x1_1.length : Int) : Int) := of_decide_eq_true zz4; obtain ⟨hx16_0, hf16_0⟩ := Kd.R_celln 0 HO_1.out (((rd_T70 l0_1 x13_1).f1) : Int) p16 q16; replace p16 := eq_true p16; replace q16 := eq_true q16; obtain ⟨hy26_, hz26_⟩ := Kd.R_celln 0 HO_1.out (((rd_T70 l0_1 x13_1).f1) : Int) (of_decide_eq_true zz4) (of_decide_eq_true zz4); have HP26 := Kd.R_putg HO_1.out (((rd_T70 l0_1 x13_1).f1) : Int) (wrap64 ((rd y105 ((rd_T70 l0_1 x13_1).f1)) + a3))) | ((with_reducible refine gate_store (t := 3) (p := 36) rfl ?_); refine store_event (t := 3) (p := 36) (v := ?vo_w27) (w1 := (w24.setCell ⟨go13, (((rd_T70 l0_1 x13_1).f1) : Int).toNat, none⟩ (.int .i64 (wrap64 ((rd y105 ((rd_T70 l0_1 x13_1).f1)) + a3))))) ?hg ?ho ?hn ?hr ?_; (case ho => rfl); (case hg => rfl); (case hn => rfl); (case hr => first | (go_simp; done) | (go_simp; rfl)); intro w27 hw; have hg : w24.grownBy w27 (some go13) := (by rw [hw]; exact HP26.2); have hp_ : Kd.R (Kd.int .i64) 3 w27 w0.heap.size (fun k_ => (P1_ k_ ∨ w.heap.size ≤ k_)) (.slice (some ⟨go13, 0, none⟩) x1_1.length co22) y107 := (by rw [hw, Ny107.out]; exact HP26.1); clear HP26; have n0_ := Aside0.mk (hp_); have n1_ := Aside0.mk (blk_grown (g := gb101) (o := .cells #[.int .i64 a0_0, .slice (some ad102) l0_1.length c0_1] 38 (0, 0)) zz2 hg (Kd.R_ne HO_1.out BK101.out (by decide))); have n2_ := Aside0.mk (blk_grown (g := gb103) (o := .cells #[.int .i64 ((rd_T70 l0_1 x13_1).f0), .int .i64 ((rd_T70 l0_1 x13_1).f1)] 70 (0, 0)) zz36 hg (Kd.R_ne HO_1.out BK103.out (by decide))); have n3_ := Aside0.mk ((by rw [hw]; exact below_set (HB.out) GB13.out : Below w0.heap.size w0 w27)); have n4_ := Aside0.mk (Kept.of_grown (S := (fun k_ => P1_ k_)) hg (by repeat (first | (with_reducible first | exact HK.out | apply Kept.alloc | apply Kept.drewN | apply Kept.drew | refine Kept.setCell ?_ (.inr GW101.out) _ | refine Kept.setCell ?_ (.inr GW103.out) _) | exact HK.out)) (fun k_ e_ => (HO_1.out.1 k_ e_))); clear HO_1; clear BK101; clear BK103; clear HB; clear HK; have HO_1 := n0_; have BK101 := n1_; have BK103 := n2_; have HB := n3_; have HK := n4_; clear n0_ n1_ n2_ n3_ n4_; clear hg hw hp_))); go_roundg k1; (case measure => have := HK1.out; omega); case rel => exact ⟨(y107), (wrap64 (x13_1 + 1)), zz6, H', ⟨by have := HK1.out; omega⟩, ⟨by (with_reducible repeat (first | apply Kd.R_alloc | apply Kd.R_drewN | apply Kd.R_drew)); exact HO_1.out⟩, ⟨by (with_reducible repeat (first | refine blk_drewN ?_ _ | refine blk_drew ?_ | refine blk_alloc ?_ _)); exact BK101.out⟩, ⟨by repeat (first | (with_reducible first | exact HK.out | apply Kept.alloc | apply Kept.drewN | apply Kept.drew | refine Kept.setCell ?_ (.inr GW101.out) _ | refine Kept.setCell ?_ (.inr GW103.out) _) | exact HK.out)⟩, ⟨by repeat (first | (with_reducible first | exact HB.out | apply below_alloc | apply pw_below_drewN | apply below_drew1 | refine below_set ?_ GE101.out | refine below_set ?_ GE103.out) | exact HB.out)⟩⟩
      rw [if_neg c10] at H; have c10b0 : (a2 == ((rd_T70 l0_1 x13_1).f0)) = false := beq_eq_false_iff_ne.mpr c10; have c10b1 : (a2 != ((rd_T70 l0_1 x13_1).f0)) = true := bne_iff_ne.mpr c10; by_cases c28 : a2 = ((rd_T70 l0_1 x13_1).f1); rotate_left
      · rw [if_neg c28] at H; have c28b0 : (a2 == ((rd_T70 l0_1 x13_1).f1)) = false := beq_eq_false_iff_ne.mpr c28; have c28b1 : (a2 != ((rd_T70 l0_1 x13_1).f1)) = true := bne_iff_ne.mpr c28; have H' := Aside0.mk H; clear H; have p102 : 0 ≤ (x13_1 : Int) := of_decide_eq_true zz4; have q102 : x13_1 < (l0_1.length : Int) := of_decide_eq_true zz4; obtain ⟨ad102, e102, hx102_0, hx102_1⟩ := at_T70 (Kd.C_kept_now HR0_1.out HK.out) x13_1 p102 q102; cases e102; replace p102 := eq_true p102; replace q102 := eq_true q102; (go_wp2_with (first | ((with_reducible refine gate_dst (N := 9) rfl ?_); refine box_event ?hg (N := 9) ?hd (cs := #[.int .i64 0, .int .i64 0]) (t := 70) ?hr ?_; (case hd => rfl); (case hg => rfl); (case hr => first | (go_simp; done) | (go_simp; rfl)); intro gb103 hg w46 hbox hb; have n0_ := Aside0.mk (Kd.R_below (by (with_reducible repeat (first | apply Kd.R_alloc | apply Kd.R_drewN | apply Kd.R_drew)); exact HO_1.out) hb); have n1_ := Aside0.mk (blk_below (g := gb101) (o := .cells #[.int .i64 a0_0, .slice (some ad102) l0_1.length c0_1] 38 (0, 0)) zz2 hb); have n2_ := Aside0.mk (Kept.below (S := (fun k_ => P1_ k_)) (by repeat (first | (with_reducible first | exact HK.out | apply Kept.alloc | apply Kept.drewN | apply Kept.drew | refine Kept.setCell ?_ (.inr GW101.out) _) | exact HK.out)) hb); have n3_ := Aside0.mk (below_step zz0 hb); have n4_ := Aside0.mk (hbox); have n5_ := Aside0.mk ((by rw [hg]; exact (by first | exact HK.out.1 | exact (show Kept w _ (fun k_ => P1_ k_) from by repeat (first | (with_reducible first | exact HK.out | apply Kept.alloc | apply Kept.drewN | apply Kept.drew | refine Kept.setCell ?_ (.inr GW101.out) _) | exact HK.out)).1) : w.heap.size ≤ gb103)); have n6_ := Aside0.mk ((zz9 : w0.heap.size ≤ gb103)); have n7_ := Aside0.mk ((zz25 : gb101 ≠ gb103)); have n8_ := Aside0.mk ((zz26 : gb103 ≠ gb101)); clear HO_1; clear BK101; clear HK; clear HB; have HO_1 := n0_; have BK101 := n1_; have HK := n2_; have HB := n3_; have BK103 := n4_; have GW103 := n5_; have GE103 := n6_; have NB101_103 := n7_; have NB103_101 := n8_; clear n0_ n1_ n2_ n3_ n4_ n5_ n6_ n7_ n8_; clear hb hbox hg; have hnb47 := NB103_101.out; have hnc47 := NB101_103.out; have hcz48_0 : w46.cell? ⟨gb103, 0, none⟩ = some (.int .i64 0) := (blk_cell BK103.out 0).trans rfl; have hcz48_1 : w46.cell? ⟨gb103, 1, none⟩ = some (.int .i64 0) := (blk_cell BK103.out 1).trans rfl; have hfz48_0 := blk_frozen BK103.out 0; have hfz48_1 := blk_frozen BK103.out 1))); go_roundg k1; (case measure => have := HK1.out; omega); case rel => exact ⟨(x1_1), (wrap64 (x13_1 + 1)), zz6, H', ⟨by have := HK1.out; omega⟩, ⟨by (with_reducible repeat (first | apply Kd.R_alloc | apply Kd.R_drewN | apply Kd.R_drew)); exact Kd.R_mono (Kd.R_far (p := ⟨gb103, 1, none⟩) (Kd.R_far (p := ⟨gb103, 0, none⟩) (Kd.R_types HO_1.out BK103.out (by decide)) (fun _ hk => hk.2) (.int .i64 ((rd_T70 l0_1 x13_1).f0))) (fun _ hk => hk.2) (.int .i64 ((rd_T70 l0_1 x13_1).f1))) (fun _ hk => hk.1)⟩, ⟨by (with_reducible repeat (first | refine blk_drewN ?_ _ | refine blk_drew ?_ | refine blk_alloc ?_ _)); refine blk_far ?_ NB101_103.out _; (with_reducible repeat (first | refine blk_drewN ?_ _ | refine blk_drew ?_ | refine blk_alloc ?_ _)); refine blk_far ?_ NB101_103.out _; (with_reducible repeat (first | refine blk_drewN ?_ _ | refine blk_drew ?_ | refine blk_alloc ?_ _)); exact BK101.out⟩, ⟨by repeat (first | (with_reducible first | exact HK.out | apply Kept.alloc | apply Kept.drewN | apply Kept.drew | refine Kept.setCell ?_ (.inr GW101.out) _ | refine Kept.setCell ?_ (.inr GW103.out) _) | exact HK.out)⟩, ⟨by repeat (first | (with_reducible first | exact HB.out | apply below_alloc | apply pw_below_drewN | apply below_drew1 | refine below_set ?_ GE101.out | refine below_set ?_ GE103.out) | exact HB.out)⟩⟩
      rw [if_pos c28] at H; have c28b0 : (a2 == ((rd_T70 l0_1 x13_1).f1)) = true := beq_iff_eq.mpr c28; have c28b1 : (a2 != ((rd_T70 l0_1 x13_1).f1)) = false := bne_eq_false_iff_eq.mpr c28; clear c28; by_cases c29 : 0 ≤ a2; rotate_left
      · rw [if_neg c29] at H; exact absurd H (by simp)
      rw [if_pos c29] at H; have c29b0 : decide (0 ≤ a2) = true := decide_eq_true c29; clear c29; by_cases c30 : a2 < (x1_1.length : Int); rotate_left
      · rw [if_neg c30] at H; exact absurd H (by simp)
      rw [if_pos c30] at H; have c30b0 : decide (a2 < (x1_1.length : Int)) = true := decide_eq_true c30; clear c30; obtain ⟨y109, hy109⟩ : ∃ y_ : List Int, y_ = (x1_1.set (a2 : Int).toNat (wrap64 ((rd x1_1 a2) - a3))) := ⟨_, rfl⟩; (replace H : (if 0 ≤ ((rd_T70 l0_1 x13_1).f0) then (if ((rd_T70 l0_1 x13_1).f0) < (x1_1.length : Int) then (impl_fire.l0 k1 (y109.set (((rd_T70 l0_1 x13_1).f0) : Int).toNat (wrap64 ((rd y109 ((rd_T70 l0_1 x13_1).f0)) + a3))) a2 a3 l0_1 (l0_1.length : Int) (wrap64 (x13_1 + 1))) else (none)) else (none)) = some r := by first | (rw [hy109]; with_reducible exact H) | (have H2_ := (Option.bind_some _ _).symm.trans H; rw [hy109]; with_reducible exact H2_) | (have H2_ := (Option.bind_some _ _).symm.trans H; with_reducible exact H2_) | with_reducible exact H | (rw [hy109]; exact H) | exact H); have Ny109 := Aside0.mk hy109; clear hy109; by_cases c32 : 0 ≤ ((rd_T70 l0_1 x13_1).f0); rotate_left
      · rw [if_neg c32] at H; exact absurd H (by simp)
      rw [if_pos c32] at H; have c32b0 : decide (0 ≤ ((rd_T70 l0_1 x13_1).f0)) = true := decide_eq_true c32; clear c32; by_cases c33 : ((rd_T70 l0_1 x13_1).f0) < (x1_1.length : Int); rotate_left
      · rw [if_neg c33] at H; exact absurd H (by simp)
      rw [if_pos c33] at H; have c33b0 : decide (((rd_T70 l0_1 x13_1).f0) < (x1_1.length : Int)) = true := decide_eq_true c33; clear c33; obtain ⟨y111, hy111⟩ : ∃ y_ : List Int, y_ = (y109.set (((rd_T70 l0_1 x13_1).f0) : Int).toNat (wrap64 ((rd y109 ((rd_T70 l0_1 x13_1).f0)) + a3))) := ⟨_, rfl⟩; (replace H : (impl_fire.l0 k1 y111 a2 a3 l0_1 (l0_1.length : Int) (wrap64 (x13_1 + 1))) = some r := by first | (rw [hy111]; with_reducible exact H) | (have H2_ := (Option.bind_some _ _).symm.trans H; rw [hy111]; with_reducible exact H2_) | (have H2_ := (Option.bind_some _ _).symm.trans H; with_reducible exact H2_) | with_reducible exact H | (rw [hy111]; exact H) | exact H); have Ny111 := Aside0.mk hy111; clear hy111; have H' := Aside0.mk H; clear H; have p102 : 0 ≤ (x13_1 : Int) := of_decide_eq_true zz4; have q102 : x13_1 < (l0_1.length : Int) := of_decide_eq_true zz4; obtain ⟨ad102, e102, hx102_0, hx102_1⟩ := at_T70 (Kd.C_kept_now HR0_1.out HK.out) x13_1 p102 q102; cases e102; replace p102 := eq_true p102; replace q102 := eq_true q102; (go_wp2_with (first | ((with_reducible refine gate_dst (N := 9) rfl ?_); refine box_event ?hg (N := 9) ?hd (cs := #[.int .i64 0, .int .i64 0]) (t := 70) ?hr ?_; (case hd => rfl); (case hg => rfl); (case hr => first | (go_simp; done) | (go_simp; rfl)); intro gb103 hg w35 hbox hb; have n0_ := Aside0.mk (Kd.R_below (by (with_reducible repeat (first | apply Kd.R_alloc | apply Kd.R_drewN | apply Kd.R_drew)); exact HO_1.out) hb); have n1_ := Aside0.mk (blk_below (g := gb101) (o := .cells #[.int .i64 a0_0, .slice (some ad102) l0_1.length c0_1] 38 (0, 0)) zz2 hb); have n2_ := Aside0.mk (Kept.below (S := (fun k_ => P1_ k_)) (by repeat (first | (with_reducible first | exact HK.out | apply Kept.alloc | apply Kept.drewN | apply Kept.drew | refine Kept.setCell ?_ (.inr GW101.out) _) | exact HK.out)) hb); have n3_ := Aside0.mk (below_step zz0 hb); have n4_ := Aside0.mk (hbox); have n5_ := Aside0.mk ((by rw [hg]; exact (by first | exact HK.out.1 | exact (show Kept w _ (fun k_ => P1_ k_) from by repeat (first | (with_reducible first | exact HK.out | apply Kept.alloc | apply Kept.drewN | apply Kept.drew | refine Kept.setCell ?_ (.inr GW101.out) _) | exact HK.out)).1) : w.heap.size ≤ gb103)); have n6_ := Aside0.mk ((zz9 : w0.heap.size ≤ gb103)); have n7_ := Aside0.mk ((zz25 : gb101 ≠ gb103)); have n8_ := Aside0.mk ((zz26 : gb103 ≠ gb101)); clear HO_1; clear BK101; clear HK; clear HB; have HO_1 := n0_; have BK101 := n1_; have HK := n2_; have HB := n3_; have BK103 := n4_; have GW103 := n5_; have GE103 := n6_; have NB101_103 := n7_; have NB103_101 := n8_; clear n0_ n1_ n2_ n3_ n4_ n5_ n6_ n7_ n8_; clear hb hbox hg; have hnb36 := NB103_101.out; have hnc36 := NB101_103.out; have hcz37_0 : w35.cell? ⟨gb103, 0, none⟩ = some (.int .i64 0) := (blk_cell BK103.out 0).trans rfl; have hcz37_1 : w35.cell? ⟨gb103, 1, none⟩ = some (.int .i64 0) := (blk_cell BK103.out 1).trans rfl; have hfz37_0 := blk_frozen BK103.out 0; have hfz37_1 := blk_frozen BK103.out 1) | ((with_reducible refine gate_store (t := 70) (p := 9) rfl ?_); refine store_event (t := 70) (p := 9) (v := ?vo_w38) (w1 := ((w35.setCell ⟨gb103, 0, none⟩ (.int .i64 ((rd_T70 l0_1 x13_1).f0))).setCell ⟨gb103, 1, none⟩ (.int .i64 ((rd_T70 l0_1 x13_1).f1)))) ?hg ?ho ?hn ?hr ?_; (case ho => rfl); (case hg => rfl); (case hn => rfl); (case hr => first | (go_simp; done) | (go_simp; rfl)); intro w38 hw; have n0_ : Aside0 (Kd.R (Kd.int .i64) 3 w38 w0.heap.size (fun k_ => (P1_ k_ ∨ w.heap.size ≤ k_)) u9000_ x1_1) := ⟨zz35⟩; have n1_ : Aside0 (w38.heap[gb101]? = some (.cells #[.int .i64 a0_0, .slice (some ad102) l0_1.length c0_1] 38 (0, 0))) := ⟨zz34⟩; have n2_ : Aside0 (w38.heap[gb103]? = some (.cells #[.int .i64 ((rd_T70 l0_1 x13_1).f0), .int .i64 ((rd_T70 l0_1 x13_1).f1)] 70 (0, 0))) := ⟨zz28⟩; have n3_ : Aside0 (Kept w w38 (fun k_ => P1_ k_)) := ⟨(by rw [hw]; exact (by repeat (first | (with_reducible first | exact HK.out | apply Kept.alloc | apply Kept.drewN | apply Kept.drew | refine Kept.setCell ?_ (.inr GW101.out) _ | refine Kept.setCell ?_ (.inr GW103.out) _) | exact HK.out)))⟩; have n4_ : Aside0 (Below w0.heap.size w0 w38) := ⟨(by rw [hw]; exact (by repeat (first | (with_reducible first | exact HB.out | apply below_alloc | apply pw_below_drewN | apply below_drew1 | refine below_set ?_ GE101.out | refine below_set ?_ GE103.out) | exact HB.out)))⟩; clear hw; clear HO_1; clear BK101; clear BK103; clear HK; clear HB; have HO_1 := n0_; have BK101 := n1_; have BK103 := n2_; have HK := n3_; have HB := n4_; clear n0_ n1_ n2_ n3_ n4_; have hcz39_0 : w38.cell? ⟨gb103, 0, none⟩ = some (.int .i64 ((rd_T70 l0_1 x13_1).f0)) := (blk_cell BK103.out 0).trans rfl; have hcz39_1 : w38.cell? ⟨gb103, 1, none⟩ = some (.int .i64 ((rd_T70 l0_1 x13_1).f1)) := (blk_cell BK103.out 1).trans rfl; have hfz39_0 := blk_frozen BK103.out 0; have hfz39_1 := blk_frozen BK103.out 1; obtain ⟨Ao40, co40, eo40⟩ := Kd.R_slice HO_1.out; subst eo40; have p108 : 0 ≤ (a2 : Int) := of_decide_eq_true zz4; have q108 : a2 < (x1_1.length : Int) := of_decide_eq_true zz4; obtain ⟨ad108, e108, hx108_0⟩ := Kd.at_int (Kd.R_reads' HO_1.out).2.2 a2 p108 q108; cases e108; replace p108 := eq_true p108; replace q108 := eq_true q108; have p31 : 0 ≤ (a2 : Int) := of_decide_eq_true zz4; have q31 : (a2 : Int) < ((x1_1.length : Int) : Int) := of_decide_eq_true zz4; obtain ⟨go31, co31, eo31, gb31, gl31, cl31, HG31⟩ := Kd.R_form HO_1.out (by omega); (first | cases eo31 | (injection eo31 with ea_ en_ ec_; (first | subst ea_ | (injection ea_ with ea_; subst ea_)); subst ec_; clear en_)); have GB31 := Aside0.mk gb31; have GG31 := Aside0.mk HG31; clear gb31 gl31 HG31; have HMgo31 := Aside0.mk (show (P1_ go31 ∨ w.heap.size ≤ go31) from (HO_1.out.1 _ rfl)); (first | simp only [add_plain] at hx108_0 | skip); obtain ⟨hx31_0, hf31_0⟩ := Kd.R_celln 0 HO_1.out (a2 : Int) p31 q31; replace p31 := eq_true p31; replace q31 := eq_true q31; obtain ⟨hy41_, hz41_⟩ := Kd.R_celln 0 HO_1.out (a2 : Int) (of_decide_eq_true zz4) (of_decide_eq_true zz4); have HP41 := Kd.R_putg HO_1.out (a2 : Int) (wrap64 ((rd x1_1 a2) - a3))) | ((with_reducible refine gate_store (t := 3) (p := 47) rfl ?_); refine store_event (t := 3) (p := 47) (v := ?vo_w42) (w1 := (w38.setCell ⟨go31, (a2 : Int).toNat, none⟩ (.int .i64 (wrap64 ((rd x1_1 a2) - a3))))) ?hg ?ho ?hn ?hr ?_; (case ho => rfl); (case hg => rfl); (case hn => rfl); (case hr => first | (go_simp; done) | (go_simp; rfl)); intro w42 hw; have hg : w38.grownBy w42 (some go31) := (by rw [hw]; exact HP41.2); have hp_ : Kd.R (Kd.int .i64) 3 w42 w0.heap.size (fun k_ => (P1_ k_ ∨ w.heap.size ≤ k_)) (.slice (some ⟨go31, 0, none⟩) x1_1.length co40) y109 := (by rw [hw, Ny109.out]; exact HP41.1); clear HP41; have n0_ := Aside0.mk (hp_); have n1_ := Aside0.mk (blk_grown (g := gb101) (o := .cells #[.int .i64 a0_0, .slice (some ad102) l0_1.length c0_1] 38 (0, 0)) zz2 hg (Kd.R_ne HO_1.out BK101.out (by decide))); have n2_ := Aside0.mk (blk_grown (g := gb103) (o := .cells #[.int .i64 ((rd_T70 l0_1 x13_1).f0), .int .i64 ((rd_T70 l0_1 x13_1).f1)] 70 (0, 0)) zz36 hg (Kd.R_ne HO_1.out BK103.out (by decide))); have n3_ := Aside0.mk ((by rw [hw]; exact below_set (HB.out) GB31.out : Below w0.heap.size w0 w42)); have n4_ := Aside0.mk (Kept.of_grown (S := (fun k_ => P1_ k_)) hg (by repeat (first | (with_reducible first | exact HK.out | apply Kept.alloc | apply Kept.drewN | apply Kept.drew | refine Kept.setCell ?_ (.inr GW101.out) _ | refine Kept.setCell ?_ (.inr GW103.out) _) | exact HK.out)) (fun k_ e_ => (HO_1.out.1 k_ e_))); clear HO_1; clear BK101; clear BK103; clear HB; clear HK; have HO_1 := n0_; have BK101 := n1_; have BK103 := n2_; have HB := n3_; have HK := n4_; clear n0_ n1_ n2_ n3_ n4_; clear hg hw hp_; have hcz43_0 : w42.cell? ⟨gb103, 0, none⟩ = some (.int .i64 ((rd_T70 l0_1 x13_1).f0)) := (blk_cell BK103.out 0).trans rfl; have hcz43_1 : w42.cell? ⟨gb103, 1, none⟩ = some (.int .i64 ((rd_T70 l0_1 x13_1).f1)) := (blk_cell BK103.out 1).trans rfl; have hfz43_0 := blk_frozen BK103.out 0; have hfz43_1 := blk_frozen BK103.out 1; have p110 : 0 ≤ (((rd_T70 l0_1 x13_1).f0) : Int) := of_decide_eq_true zz4; have q110 : ((rd_T70 l0_1 x13_1).f0) < (y109.length : Int) := (by have h_ : (((rd_T70 l0_1 x13_1).f0) : Int) < ((x1_1.length : Int) : Int) := of_decide_eq_true zz4; first | (have e_ := (Kd.R_reads' HO_1.out).1; omega) | simpa only [Ny109.out, List.length_set] using h_); have ql110 : ((((rd_T70 l0_1 x13_1).f0) : Int) < ((x1_1.length : Int) : Int)) = True := eq_true (of_decide_eq_true zz4); obtain ⟨ad110, e110, hx110_0⟩ := Kd.at_int (Kd.R_reads' HO_1.out).2.2 ((rd_T70 l0_1 x13_1).f0) p110 q110; obtain rfl : (⟨go31, 0, none⟩ : Addr) = ad110 := (by injection e110); (first | simp only [add_plain] at hx110_0 | simp only [add_at] at hx110_0 | simp only [Addr.add, Nat.zero_add] at hx110_0 | skip); replace p110 := eq_true p110; replace q110 := eq_true q110; have p34 : 0 ≤ (((rd_T70 l0_1 x13_1).f0) : Int) := of_decide_eq_true zz4; have q34 : (((rd_T70 l0_1 x13_1).f0) : Int) < ((x1_1.length : Int) : Int) := of_decide_eq_true zz4; obtain ⟨hx34_0, hf34_0⟩ := Kd.R_celln 0 HO_1.out (((rd_T70 l0_1 x13_1).f0) : Int) p34 q34; replace p34 := eq_true p34; replace q34 := eq_true q34; obtain ⟨hy44_, hz44_⟩ := Kd.R_celln 0 HO_1.out (((rd_T70 l0_1 x13_1).f0) : Int) (of_decide_eq_true zz4) (of_decide_eq_true zz4); have HP44 := Kd.R_putg HO_1.out (((rd_T70 l0_1 x13_1).f0) : Int) (wrap64 ((rd y109 ((rd_T70 l0_1 x13_1).f0)) + a3))) | ((with_reducible refine gate_store (t := 3) (p := 55) rfl ?_); refine store_event (t := 3) (p := 55) (v := ?vo_w45) (w1 := (w42.setCell ⟨go31, (((rd_T70 l0_1 x13_1).f0) : Int).toNat, none⟩ (.int .i64 (wrap64 ((rd y109 ((rd_T70 l0_1 x13_1).f0)) + a3))))) ?hg ?ho ?hn ?hr ?_; (case ho => rfl); (case hg => rfl); (case hn => rfl); (case hr => first | (go_simp; done) | (go_simp; rfl)); intro w45 hw; have hg : w42.grownBy w45 (some go31) := (by rw [hw]; exact HP44.2); have hp_ : Kd.R (Kd.int .i64) 3 w45 w0.heap.size (fun k_ => (P1_ k_ ∨ w.heap.size ≤ k_)) (.slice (some ⟨go31, 0, none⟩) x1_1.length co40) y111 := (by rw [hw, Ny111.out]; exact HP44.1); clear HP44; have n0_ := Aside0.mk (hp_); have n1_ := Aside0.mk (blk_grown (g := gb101) (o := .cells #[.int .i64 a0_0, .slice (some ad102) l0_1.length c0_1] 38 (0, 0)) zz2 hg (Kd.R_ne HO_1.out BK101.out (by decide))); have n2_ := Aside0.mk (blk_grown (g := gb103) (o := .cells #[.int .i64 ((rd_T70 l0_1 x13_1).f0), .int .i64 ((rd_T70 l0_1 x13_1).f1)] 70 (0, 0)) zz36 hg (Kd.R_ne HO_1.out BK103.out (by decide))); have n3_ := Aside0.mk ((by rw [hw]; exact below_set (HB.out) GB31.out : Below w0.heap.size w0 w45)); have n4_ := Aside0.mk (Kept.of_grown (S := (fun k_ => P1_ k_)) hg (by repeat (first | (with_reducible first | exact HK.out | apply Kept.alloc | apply Kept.drewN | apply Kept.drew | refine Kept.setCell ?_ (.inr GW101.out) _ | refine Kept.setCell ?_ (.inr GW103.out) _) | exact HK.out)) (fun k_ e_ => (HO_1.out.1 k_ e_))); clear HO_1; clear BK101; clear BK103; clear HB; clear HK; have HO_1 := n0_; have BK101 := n1_; have BK103 := n2_; have HB := n3_; have HK := n4_; clear n0_ n1_ n2_ n3_ n4_; clear hg hw hp_))); go_roundg k1; (case measure => have := HK1.out; omega); case rel => exact ⟨(y111), (wrap64 (x13_1 + 1)), zz6, H', ⟨by have := HK1.out; omega⟩, ⟨by (with_reducible repeat (first | apply Kd.R_alloc | apply Kd.R_drewN | apply Kd.R_drew)); exact HO_1.out⟩, ⟨by (with_reducible repeat (first | refine blk_drewN ?_ _ | refine blk_drew ?_ | refine blk_alloc ?_ _)); exact BK101.out⟩, ⟨by repeat (first | (with_reducible first | exact HK.out | apply Kept.alloc | apply Kept.drewN | apply Kept.drew | refine Kept.setCell ?_ (.inr GW101.out) _ | refine Kept.setCell ?_ (.inr GW103.out) _) | exact HK.out)⟩, ⟨by repeat (first | (with_reducible first | exact HB.out | apply below_alloc | apply pw_below_drewN | apply below_drew1 | refine below_set ?_ GE101.out | refine below_set ?_ GE103.out) | exact HB.out)⟩⟩
end Go.Proofs.Ytjecgolakaiddaa.P
end

section
namespace Go.Proofs.Ytjecgolakaiddaa.P
open Go.RowKit Go.Proofs.YtjecgolakaiddaaW.PrintWords Go.Proofs.YtjecgolakaiddaaW.PrintLast Go.Proofs.YtjecgolakaiddaaW.PrintMore
attribute [local go_sem] max2_int min2_int max_two min_two max_three min_three max_four min_four
set_option linter.unusedVariables false
set_option linter.unusedSimpArgs false
def impl_unstable.l0 : Nat → Int → List Int → Int → Int → Int → List (S70) → Option (Int)
  | 0, _, _, _, _, _, _ => none
  | k + 1, x2, x9, x10, x11, x102000, x102001 => if x11 < x10 then (if 0 ≤ x11 then (if x11 < (x9.length : Int) then (if x11 = x2 then (impl_unstable.l0 k x2 x9 x10 (wrap64 (x11 + 1)) x102000 x102001) else ((impl_Valence.f k x102000 x102001 x11).bind fun t103 => (if (rd x9 x11) ≥ t103 then (some x11) else (impl_unstable.l0 k x2 x9 x10 (wrap64 (x11 + 1)) x102000 x102001)))) else (none)) else (none)) else (some (-1))
def impl_unstable.f (k : Nat) (a0_0 : Int) (l0_1 : List (S70)) (l1 : List Int) (a2 : Int) : Option (Int) := impl_unstable.l0 k a2 l1 (l1.length : Int) 0 a0_0 l0_1
theorem impl_unstable.mono_l : ∀ k, (∀ y0 y1 y2 y3 y4 y5, LeO (impl_unstable.l0 k y0 y1 y2 y3 y4 y5) (impl_unstable.l0 (k + 1) y0 y1 y2 y3 y4 y5))
  | 0 => fun _ _ _ _ _ _ r h => by simp [impl_unstable.l0] at h
  | k + 1 => by
    have ih0 := impl_unstable.mono_l k
    · intro y0 y1 y2 y3 y4 y5
      unfold impl_unstable.l0
      repeat' first
      | (with_reducible exact ih0 _ _ _ _ _ _)
      | (with_reducible exact impl_Valence.mono _ _ _ _)
      | (with_reducible exact LeO.refl _)
      | (with_reducible exact LeO.none _)
      | (with_reducible refine LeO.ite ?_ ?_)
      | (with_reducible refine LeO.bind ?_ (fun _ => ?_))
      | exact ih0 _ _ _ _ _ _
      | exact impl_Valence.mono _ _ _ _
      | exact LeO.none _
      | refine LeO.ite ?_ ?_
      | refine LeO.bind ?_ (fun _ => ?_)
theorem impl_unstable.mono : ∀ a0 a1 a2 a3 k, LeO (impl_unstable.f k a0 a1 a2 a3) (impl_unstable.f (k + 1) a0 a1 a2 a3) := by
  intro a0 a1 a2 a3 k; have ih0 := impl_unstable.mono_l k; unfold impl_unstable.f
  repeat' first
      | (with_reducible exact ih0 _ _ _ _ _ _)
      | (with_reducible exact impl_Valence.mono _ _ _ _)
      | (with_reducible exact LeO.refl _)
      | (with_reducible exact LeO.none _)
      | (with_reducible refine LeO.ite ?_ ?_)
      | (with_reducible refine LeO.bind ?_ (fun _ => ?_))
      | exact ih0 _ _ _ _ _ _
      | exact impl_Valence.mono _ _ _ _
      | exact LeO.none _
      | refine LeO.ite ?_ ?_
      | refine LeO.bind ?_ (fun _ => ?_)
set_option maxHeartbeats 8000000 in
set_option maxRecDepth 100000 in
theorem impl_unstable.calls (k : Nat) (a0_0 : Int) (A0_1 : Option Addr) (c0_1 : Nat) (l0_1 : List (S70)) (A1 : Option Addr) (c1 : Nat) (l1 : List Int) (a2 : Int) (r : Int) (w : World) (hr0_1 : Kd.C k70 w A0_1 l0_1.length l0_1) (hc0_1 : l0_1.length ≤ c0_1) (hr1 : Kd.C (Kd.int .i64) w A1 l1.length l1) (hc1 : l1.length ≤ c1) (h : impl_unstable.f k a0_0 l0_1 l1 a2 = some r) :
    Calls Try.prog 186 #[.agg #[.int .i64 a0_0, .slice A0_1 l0_1.length c0_1], .slice A1 l1.length c1, .int .i64 a2] w fun e w' => e = .returned (.int .i64 r) ∧ Below w.heap.size w w' := by
  have hu38 := Try.underlying38; have HR0_1 := Aside0.mk hr0_1; have HC0_1 := Aside0.mk hc0_1; clear hr0_1 hc0_1; have HR1 := Aside0.mk hr1; have HC1 := Aside0.mk hc1; clear hr1 hc1; have HB := Aside0.mk (Below.refl w.heap.size w); have H : (impl_unstable.l0 k a2 l1 (l1.length : Int) 0 a0_0 l0_1) = some r := h; clear h; have H' := Aside0.mk H; clear H; go_enter Try.func186, Try.ntmps186; (go_wp2_with (first | ((with_reducible refine gate_dst (N := 3) rfl ?_); refine box_event ?hg (N := 3) ?hd (cs := #[.int .i64 a0_0, .slice A0_1 l0_1.length c0_1]) (t := 38) ?hr ?_; (case hd => rfl); (case hg => rfl); (case hr => first | (go_simp; done) | (go_simp; rfl)); intro gb101 hg w4 hbox hb; have n0_ := Aside0.mk (below_step zz1 hb); have n1_ := Aside0.mk (hbox); have n2_ := Aside0.mk ((zz7 : w.heap.size ≤ gb101)); have n3_ := Aside0.mk ((zz7 : w.heap.size ≤ gb101)); clear HB; have HB := n0_; have BK101 := n1_; have GW101 := n2_; have GE101 := n3_; clear n0_ n1_ n2_ n3_; clear hb hbox hg))); (go_loopg [11] k (fun kq v11 w' => ∃ (x11_1 : Int), v11 = .int .i64 x11_1 ∧ Aside0 (impl_unstable.l0 kq a2 l1 (l1.length : Int) x11_1 a0_0 l0_1 = some r) ∧ Aside0 (kq ≤ k) ∧ Aside0 (w'.heap[gb101]? = some (.cells #[.int .i64 a0_0, (.slice A0_1 l0_1.length c0_1)] 38 (0, 0))) ∧ Aside0 (Below w.heap.size w w'))); case atStart => exact ⟨(0), zz6, H', ⟨Nat.le_refl _⟩, ⟨by (with_reducible repeat (first | refine blk_drewN ?_ _ | refine blk_drew ?_ | refine blk_alloc ?_ _)); exact BK101.out⟩, ⟨by repeat (first | (with_reducible first | exact HB.out | apply below_alloc | apply pw_below_drewN | apply below_drew1 | refine below_set ?_ GE101.out) | exact HB.out)⟩⟩
  case round =>
    clear H'; (try clear c1); (try clear p2); obtain ⟨x11_1, rfl, HA, HK1, BK101, HB⟩ := hrel
    cases gk with
    | zero => exact absurd HA.out (by simp [impl_unstable.l0])
    | succ k1 =>
      have H := HA.out; clear HA; simp only [impl_unstable.l0] at H; by_cases c5 : x11_1 < (l1.length : Int); rotate_left
      · rw [if_neg c5] at H; have c5b0 : decide (x11_1 < (l1.length : Int)) = false := decide_eq_false c5; clear c5; obtain rfl := Option.some.inj H; go_wp2; go_ret; exact ⟨by first | rfl | (simp [errW_none, errW_some] <;> rfl) | (simp [*, errW_none, errW_some] <;> rfl), by repeat (first | (with_reducible first | exact HB.out | apply below_alloc | apply pw_below_drewN | apply below_drew1 | refine below_set ?_ GE101.out) | exact HB.out)⟩
      rw [if_pos c5] at H; have c5b0 : decide (x11_1 < (l1.length : Int)) = true := decide_eq_true c5; clear c5; by_cases c6 : 0 ≤ x11_1; rotate_left
      · rw [if_neg c6] at H; exact absurd H (by simp)
      rw [if_pos c6] at H; have c6b0 : decide (0 ≤ x11_1) = true := decide_eq_true c6; clear c6; by_cases c7 : x11_1 < (l1.length : Int); rotate_left
      · rw [if_neg c7] at H; exact absurd H (by simp)
      rw [if_pos c7] at H; have c7b0 : decide (x11_1 < (l1.length : Int)) = true := decide_eq_true c7; clear c7; by_cases c8 : x11_1 = a2
      · rw [if_pos c8] at H; have c8b0 : (x11_1 == a2) = true := beq_iff_eq.mpr c8; have c8b1 : (x11_1 != a2) = false := bne_eq_false_iff_eq.mpr c8; clear c8; have H' := Aside0.mk H; clear H; have p102 : 0 ≤ (x11_1 : Int) := of_decide_eq_true zz4; have q102 : x11_1 < (l1.length : Int) := of_decide_eq_true zz4; obtain ⟨ad102, e102, hx102_0⟩ := Kd.at_int HR1.out x11_1 p102 q102; cases e102; replace hx102_0 := (HB.out.cell (World.block_lt_of_cell? w _ hx102_0)).trans hx102_0; replace p102 := eq_true p102; replace q102 := eq_true q102; go_wp2; go_roundg k1; (case measure => have := HK1.out; omega); case rel => exact ⟨(wrap64 (x11_1 + 1)), zz6, H', ⟨by have := HK1.out; omega⟩, ⟨by (with_reducible repeat (first | refine blk_drewN ?_ _ | refine blk_drew ?_ | refine blk_alloc ?_ _)); exact BK101.out⟩, ⟨by repeat (first | (with_reducible first | exact HB.out | apply below_alloc | apply pw_below_drewN | apply below_drew1 | refine below_set ?_ GE101.out) | exact HB.out)⟩⟩
      rw [if_neg c8] at H; have c8b0 : (x11_1 == a2) = false := beq_eq_false_iff_ne.mpr c8; have c8b1 : (x11_1 != a2) = true := bne_iff_ne.mpr c8; replace H := Option.bind_eq_some_iff.mp H; obtain ⟨t103, A90, H⟩ := H; replace H : (if (rd l1 x11_1) ≥ t103 then (some x11_1) else (impl_unstable.l0 k1 a2 l1 (l1.length : Int) (wrap64 (x11_1 + 1)) a0_0 l0_1)) = some r := H; have A9 := Aside0.mk A90; clear A90; by_cases c10 : (rd l1 x11_1) ≥ t103
      · rw [if_pos c10] at H; have c10b0 : decide (t103 ≤ (rd l1 x11_1)) = true := decide_eq_true c10; clear c10; obtain rfl := Option.some.inj H; have p102 : 0 ≤ (x11_1 : Int) := of_decide_eq_true zz4; have q102 : x11_1 < (l1.length : Int) := of_decide_eq_true zz4; obtain ⟨ad102, e102, hx102_0⟩ := Kd.at_int HR1.out x11_1 p102 q102; cases e102; replace hx102_0 := (HB.out.cell (World.block_lt_of_cell? w _ hx102_0)).trans hx102_0; replace p102 := eq_true p102; replace q102 := eq_true q102; have hcz11_0 : wr.cell? ⟨gb101, 0, none⟩ = some (.int .i64 a0_0) := (blk_cell BK101.out 0).trans rfl; have hcz11_1 : wr.cell? ⟨gb101, 1, none⟩ = some (.slice A0_1 l0_1.length c0_1) := (blk_cell BK101.out 1).trans rfl; have hfz11_0 := blk_frozen BK101.out 0; have hfz11_1 := blk_frozen BK101.out 1; (go_wp2_with (first | (go_at_call 115; (with_reducible refine (impl_Valence.calls k1 a0_0 _ _ l0_1 x11_1 t103 _ ?side1 ?side2 A9.out).mono ?_); (case side1 => repeat (first | exact (Kd.C_below HR0_1.out HB.out) | (with_reducible refine Kd.C_alloc ?_ _) | (with_reducible refine Kd.C_drewN ?_ _) | (with_reducible refine Kd.C_drew ?_))); (case side2 => exact HC0_1.out); rintro e w12 ⟨rfl, hb⟩; have n0_ := Aside0.mk (blk_below (g := gb101) (o := .cells #[.int .i64 a0_0, .slice A0_1 l0_1.length c0_1] 38 (0, 0)) zz2 hb); have n1_ := Aside0.mk (below_step zz0 hb); clear BK101; clear HB; have BK101 := n0_; have HB := n1_; clear n0_ n1_; (try clear hb); (try clear hb2); (try clear hk); (try clear hi)))); go_ret; exact ⟨by first | rfl | (simp [errW_none, errW_some] <;> rfl) | (simp [*, errW_none, errW_some] <;> rfl), by repeat (first | (with_reducible first | exact HB.out | apply below_alloc | apply pw_below_drewN | apply below_drew1 | refine below_set ?_ GE101.out) | exact HB.out)⟩
      rw [if_neg c10] at H; have c10b0 : decide (t103 ≤ (rd l1 x11_1)) = false := decide_eq_false c10; clear c10; have H' := Aside0.mk H; clear H; have p102 : 0 ≤ (x11_1 : Int) := of_decide_eq_true zz4; have q102 : x11_1 < (l1.length : Int) := of_decide_eq_true zz4; obtain ⟨ad102, e102, hx102_0⟩ := Kd.at_int HR1.out x11_1 p102 q102; cases e102; replace hx102_0 := (HB.out.cell (World.block_lt_of_cell? w _ hx102_0)).trans hx102_0; replace p102 := eq_true p102; replace q102 := eq_true q102; have hcz13_0 : wr.cell? ⟨gb101, 0, none⟩ = some (.int .i64 a0_0) := (blk_cell BK101.out 0).trans rfl; have hcz13_1 : wr.cell? ⟨gb101, 1, none⟩ = some (.slice A0_1 l0_1.length c0_1) := (blk_cell BK101.out 1).trans rfl; have hfz13_0 := blk_frozen BK101.out 0; have hfz13_1 := blk_frozen BK101.out 1; (go_wp2_with (first | (go_at_call 115; (with_reducible refine (impl_Valence.calls k1 a0_0 _ _ l0_1 x11_1 t103 _ ?side1 ?side2 A9.out).mono ?_); (case side1 => repeat (first | exact (Kd.C_below HR0_1.out HB.out) | (with_reducible refine Kd.C_alloc ?_ _) | (with_reducible refine Kd.C_drewN ?_ _) | (with_reducible refine Kd.C_drew ?_))); (case side2 => exact HC0_1.out); rintro e w14 ⟨rfl, hb⟩; have n0_ := Aside0.mk (blk_below (g := gb101) (o := .cells #[.int .i64 a0_0, .slice A0_1 l0_1.length c0_1] 38 (0, 0)) zz2 hb); have n1_ := Aside0.mk (below_step zz0 hb); clear BK101; clear HB; have BK101 := n0_; have HB := n1_; clear n0_ n1_; (try clear hb); (try clear hb2); (try clear hk); (try clear hi)))); go_roundg k1; (case measure => have := HK1.out; omega); case rel => exact ⟨(wrap64 (x11_1 + 1)), zz6, H', ⟨by have := HK1.out; omega⟩, ⟨by (with_reducible repeat (first | refine blk_drewN ?_ _ | refine blk_drew ?_ | refine blk_alloc ?_ _)); exact BK101.out⟩, ⟨by repeat (first | (with_reducible first | exact HB.out | apply below_alloc | apply pw_below_drewN | apply below_drew1 | refine below_set ?_ GE101.out) | exact HB.out)⟩⟩
end Go.Proofs.Ytjecgolakaiddaa.P
end

section
namespace Go.Proofs.Ytjecgolakaiddaa.P
open Go.RowKit Go.Proofs.YtjecgolakaiddaaW.PrintWords Go.Proofs.YtjecgolakaiddaaW.PrintLast Go.Proofs.YtjecgolakaiddaaW.PrintMore
attribute [local go_sem] max2_int min2_int max_two min_two max_three min_three max_four min_four
set_option linter.unusedVariables false
set_option linter.unusedSimpArgs false
def impl_stabilize.l0 : Nat → Int → List Int → List Int → Int → Int → List (S70) → Option (List Int × List Int)
  | 0, _, _, _, _, _, _ => none
  | k + 1, x2, x8, x9, x10, x102000, x102001 => if x10 ≥ 0 then (if 0 ≤ x10 then (if x10 < (x8.length : Int) then ((impl_Valence.f k x102000 x102001 x10).bind fun t110 => (if t110 = 0 then (none) else ((impl_fire.f k x102000 x102001 x8 x10 (wrap64 (Int.tdiv (rd x8 x10) t110))).bind fun t111 => (if x10 < (x9.length : Int) then ((impl_unstable.f k x102000 x102001 t111 x2).bind fun t114 => (impl_stabilize.l0 k x2 t111 (x9.set (x10 : Int).toNat (wrap64 ((rd x9 x10) + (wrap64 (Int.tdiv (rd x8 x10) t110))))) t114 x102000 x102001)) else (none))))) else (none)) else (none)) else (if 0 ≤ x2 then (if x2 < (x8.length : Int) then (some ((x8.set (x2 : Int).toNat 0), x9)) else (none)) else (none))
def impl_stabilize.f (k : Nat) (a0_0 : Int) (l0_1 : List (S70)) (l1 : List Int) (a2 : Int) : Option (List Int × List Int) := (impl_copyInts.f l1).bind fun t102 => (if 0 ≤ a0_0 then (if (a0_0 : Int).toNat ≤ 35184372088832 then ((impl_unstable.f k a0_0 l0_1 t102 a2).bind fun t108 => (impl_stabilize.l0 k a2 t102 (List.replicate (a0_0 : Int).toNat 0) t108 a0_0 l0_1)) else (none)) else (none))
theorem impl_stabilize.mono_l : ∀ k, (∀ y0 y1 y2 y3 y4 y5, LeO (impl_stabilize.l0 k y0 y1 y2 y3 y4 y5) (impl_stabilize.l0 (k + 1) y0 y1 y2 y3 y4 y5))
  | 0 => fun _ _ _ _ _ _ r h => by simp [impl_stabilize.l0] at h
  | k + 1 => by
    have ih0 := impl_stabilize.mono_l k
    · intro y0 y1 y2 y3 y4 y5
      unfold impl_stabilize.l0
      repeat' first
      | (with_reducible exact ih0 _ _ _ _ _ _)
      | (with_reducible exact impl_Valence.mono _ _ _ _)
      | (with_reducible exact impl_fire.mono _ _ _ _ _ _)
      | (with_reducible exact impl_unstable.mono _ _ _ _ _)
      | (with_reducible exact LeO.refl _)
      | (with_reducible exact LeO.none _)
      | (with_reducible refine LeO.ite ?_ ?_)
      | (with_reducible refine LeO.bind ?_ (fun _ => ?_))
      | exact ih0 _ _ _ _ _ _
      | exact impl_Valence.mono _ _ _ _
      | exact impl_fire.mono _ _ _ _ _ _
      | exact impl_unstable.mono _ _ _ _ _
      | exact LeO.none _
      | refine LeO.ite ?_ ?_
      | refine LeO.bind ?_ (fun _ => ?_)
theorem impl_stabilize.mono : ∀ a0 a1 a2 a3 k, LeO (impl_stabilize.f k a0 a1 a2 a3) (impl_stabilize.f (k + 1) a0 a1 a2 a3) := by
  intro a0 a1 a2 a3 k; have ih0 := impl_stabilize.mono_l k; unfold impl_stabilize.f
  repeat' first
      | (with_reducible exact ih0 _ _ _ _ _ _)
      | (with_reducible exact impl_Valence.mono _ _ _ _)
      | (with_reducible exact impl_fire.mono _ _ _ _ _ _)
      | (with_reducible exact impl_unstable.mono _ _ _ _ _)
      | (with_reducible exact LeO.refl _)
      | (with_reducible exact LeO.none _)
      | (with_reducible refine LeO.ite ?_ ?_)
      | (with_reducible refine LeO.bind ?_ (fun _ => ?_))
      | exact ih0 _ _ _ _ _ _
      | exact impl_Valence.mono _ _ _ _
      | exact impl_fire.mono _ _ _ _ _ _
      | exact impl_unstable.mono _ _ _ _ _
      | exact LeO.none _
      | refine LeO.ite ?_ ?_
      | refine LeO.bind ?_ (fun _ => ?_)
def impl_stabilize.T6 : Bool × List (List Nat × List Nat) := (true, [([], []), ([], []), ([0, 1], [0, 1]), ([2], [2]), ([], []), ([], []), ([4, 5], [4, 5]), ([3, 6], [3, 6]), ([7, 6, 0, 1, 2, 3, 4, 5, 6, 7], [7])])
def impl_stabilize.B6 : List Nat := [0, 0, 3, 7, 0, 0, 48, 127, 255]
theorem impl_stabilize.tab6 : rtab .any (opsOf Try.f143 6) = impl_stabilize.T6 := by kernel_rfl
theorem impl_stabilize.bits6 : waitsOk impl_stabilize.T6.2 impl_stabilize.B6 = true := by kernel_rfl
set_option maxHeartbeats 8000000 in
set_option maxRecDepth 100000 in
theorem impl_stabilize.calls (k : Nat) (a0_0 : Int) (A0_1 : Option Addr) (c0_1 : Nat) (l0_1 : List (S70)) (A1 : Option Addr) (c1 : Nat) (l1 : List Int) (a2 : Int) (r1 : List Int) (r2 : List Int) (w : World) (hr0_1 : Kd.C k70 w A0_1 l0_1.length l0_1) (hc0_1 : l0_1.length ≤ c0_1) (hr1 : Kd.C (Kd.int .i64) w A1 l1.length l1) (hc1 : l1.length ≤ c1) (h : impl_stabilize.f k a0_0 l0_1 l1 a2 = some (r1, r2)) :
    Calls Try.prog 143 #[.agg #[.int .i64 a0_0, .slice A0_1 l0_1.length c0_1], .slice A1 l1.length c1, .int .i64 a2] w fun e w' => ∃ v0_ v1_ : Value, e = .returned (.tuple #[v0_, v1_]) ∧ Kd.R (Kd.int .i64) 3 w' w.heap.size (fun k_ => some k_ ≠ (v1_ : Value).ownBlock) v0_ r1 ∧ Kd.R (Kd.int .i64) 3 w' w.heap.size (fun k_ => some k_ ≠ (v0_ : Value).ownBlock) v1_ r2 ∧ Below w.heap.size w w' := by
  have hu38 := Try.underlying38; have HR0_1 := Aside0.mk hr0_1; have HC0_1 := Aside0.mk hc0_1; clear hr0_1 hc0_1; have HR1 := Aside0.mk hr1; have HC1 := Aside0.mk hc1; clear hr1 hc1; have HB := Aside0.mk (Below.refl w.heap.size w); have H : ((impl_copyInts.f l1).bind fun t102 => (if 0 ≤ a0_0 then (if (a0_0 : Int).toNat ≤ 35184372088832 then ((impl_unstable.f k a0_0 l0_1 t102 a2).bind fun t108 => (impl_stabilize.l0 k a2 t102 (List.replicate (a0_0 : Int).toNat 0) t108 a0_0 l0_1)) else (none)) else (none))) = some (r1, r2) := h; clear h; replace H := Option.bind_eq_some_iff.mp H; obtain ⟨t102, A40, H⟩ := H; replace H : (if 0 ≤ a0_0 then (if (a0_0 : Int).toNat ≤ 35184372088832 then ((impl_unstable.f k a0_0 l0_1 t102 a2).bind fun t108 => (impl_stabilize.l0 k a2 t102 (List.replicate (a0_0 : Int).toNat 0) t108 a0_0 l0_1)) else (none)) else (none)) = some (r1, r2) := H; have A4 := Aside0.mk A40; clear A40; by_cases c5 : 0 ≤ a0_0; rotate_left
  · rw [if_neg c5] at H; exact absurd H (by simp)
  rw [if_pos c5] at H; have c5b0 := eq_true c5; have c5b1 : decide (0 ≤ a0_0) = true := decide_eq_true c5; clear c5; by_cases c6 : (a0_0 : Int).toNat ≤ 35184372088832; rotate_left
  · rw [if_neg c6] at H; exact absurd H (by simp)
  rw [if_pos c6] at H; have c6b0 := eq_true c6; have c6b1 : decide ((a0_0 : Int).toNat ≤ 35184372088832) = true := decide_eq_true c6; clear c6; obtain ⟨y105, hy105⟩ : ∃ y_ : List Int, y_ = (List.replicate (a0_0 : Int).toNat 0) := ⟨_, rfl⟩; (replace H : ((impl_unstable.f k a0_0 l0_1 t102 a2).bind fun t108 => (impl_stabilize.l0 k a2 t102 y105 t108 a0_0 l0_1)) = some (r1, r2) := by first | (rw [hy105]; with_reducible exact H) | (have H2_ := (Option.bind_some _ _).symm.trans H; rw [hy105]; with_reducible exact H2_) | (have H2_ := (Option.bind_some _ _).symm.trans H; with_reducible exact H2_) | with_reducible exact H | (rw [hy105]; exact H) | exact H); have Ny105 := Aside0.mk hy105; clear hy105; replace H := Option.bind_eq_some_iff.mp H; obtain ⟨t108, A70, H⟩ := H; replace H : (impl_stabilize.l0 k a2 t102 y105 t108 a0_0 l0_1) = some (r1, r2) := H; have A7 := Aside0.mk A70; clear A70; have H' := Aside0.mk H; clear H; go_enter Try.func143, Try.ntmps143; (go_wp2_with (first | ((with_reducible refine gate_dst (N := 3) rfl ?_); refine box_event ?hg (N := 3) ?hd (cs := #[.int .i64 a0_0, .slice A0_1 l0_1.length c0_1]) (t := 38) ?hr ?_; (case hd => rfl); (case hg => rfl); (case hr => first | (go_simp; done) | (go_simp; rfl)); intro gb101 hg w8 hbox hb; have n0_ := Aside0.mk (below_step zz1 hb); have n1_ := Aside0.mk (hbox); have n2_ := Aside0.mk ((zz7 : w.heap.size ≤ gb101)); have n3_ := Aside0.mk ((zz7 : w.heap.size ≤ gb101)); clear HB; have HB := n0_; have BK101 := n1_; have GW101 := n2_; have GE101 := n3_; clear n0_ n1_ n2_ n3_; clear hb hbox hg) | ((with_reducible refine gate_callee (f := 124) rfl ?_); refine goesL_ (some 13) rfl rfl Try.func124 (by kernel_rfl) rfl #[.slice A1 l1.length c1] rfl zz3 ?_; (with_reducible refine (impl_copyInts.calls _ _ l1 t102 _ ?side1 ?side2 A4.out).mono ?_); (case side1 => repeat (first | exact (Kd.C_below HR1.out HB.out) | (with_reducible refine Kd.C_alloc ?_ _) | (with_reducible refine Kd.C_drewN ?_ _) | (with_reducible refine Kd.C_drew ?_))); (case side2 => exact HC1.out); rintro e w9 ⟨v103, rfl, ho0, hb⟩; refine ⟨_, rfl, ?_⟩; have n0_ := Aside0.mk (Kd.R_lower ho0 (below_size zz0)); have n1_ := Aside0.mk (blk_below (g := gb101) (o := .cells #[.int .i64 a0_0, .slice A0_1 l0_1.length c0_1] 38 (0, 0)) zz2 hb); have n2_ := Aside0.mk (below_step zz0 hb); clear BK101; clear HB; have HO104 := n0_; have BK101 := n1_; have HB := n2_; clear n0_ n1_ n2_; (try clear hb); (try clear hb2); (try clear hk); (try clear hi); (try clear ho0); have hcz10_0 : w9.cell? ⟨gb101, 0, none⟩ = some (.int .i64 a0_0) := (blk_cell BK101.out 0).trans rfl; have hcz10_1 : w9.cell? ⟨gb101, 1, none⟩ = some (.slice A0_1 l0_1.length c0_1) := (blk_cell BK101.out 1).trans rfl; have hfz10_0 := blk_frozen BK101.out 0; have hfz10_1 := blk_frozen BK101.out 1) | ((with_reducible refine gate_dst (N := 16) rfl ?_); refine Kd.R_make (Kd.int .i64) _ 3 rfl (N := 16) rfl 24 _ _ rfl a0_0 rfl rfl Try.underlying24 (.int .i64 0) 8 info3 rfl (by decide) (by omega) 0 (ok := fun _ => True) (okp := fun _ => True) rfl (fun _ hk => hk) trivial (of_decide_eq_true zz4) (Nat.le_trans (Nat.mul_le_mul_right _ (of_decide_eq_true zz4 : a0_0.toNat ≤ 35184372088832)) (by omega)) (Below.refl _ _) (Nat.le_refl _) ?_; intro v106 w11 ho12 hb hg_ hnew_; clear hg_ hnew_; (first | rw [← Ny105.out] at ho12 | (simp only [Int.reduceToNat] at ho12; rw [← Ny105.out] at ho12)); have n0_ := Aside0.mk (Kd.R_elder' zz22 (Kd.R_base ho12) hb); have n1_ := Aside0.mk (Kd.R_lower (Kd.R_new' ho12 (Kd.R_lt zz22)) (below_size zz0)); have n2_ := Aside0.mk (blk_below (g := gb101) (o := .cells #[.int .i64 a0_0, .slice A0_1 l0_1.length c0_1] 38 (0, 0)) zz2 hb); have n3_ := Aside0.mk (below_step zz0 hb); clear HO104; clear BK101; clear HB; have HO104 := n0_; have HO107 := n1_; have BK101 := n2_; have HB := n3_; clear n0_ n1_ n2_ n3_; clear hb ho12; have hcz13_0 : w11.cell? ⟨gb101, 0, none⟩ = some (.int .i64 a0_0) := (blk_cell BK101.out 0).trans rfl; have hcz13_1 : w11.cell? ⟨gb101, 1, none⟩ = some (.slice A0_1 l0_1.length c0_1) := (blk_cell BK101.out 1).trans rfl; have hfz13_0 := blk_frozen BK101.out 0; have hfz13_1 := blk_frozen BK101.out 1; obtain ⟨Ao14, co14, eo14⟩ := Kd.R_slice HO104.out; subst eo14) | ((with_reducible refine gate_callee (f := 186) rfl ?_); refine goesL_ (some 20) rfl rfl Try.func186 (by kernel_rfl) rfl #[.agg #[.int .i64 a0_0, .slice A0_1 l0_1.length c0_1], .slice Ao14 t102.length co14, .int .i64 a2] rfl zz3 ?_; (with_reducible refine (impl_unstable.calls k a0_0 _ _ l0_1 _ _ t102 a2 t108 _ ?side1 ?side2 ?side3 ?side4 A7.out).mono ?_); (case side1 => repeat (first | exact (Kd.C_below HR0_1.out HB.out) | (with_reducible refine Kd.C_alloc ?_ _) | (with_reducible refine Kd.C_drewN ?_ _) | (with_reducible refine Kd.C_drew ?_))); (case side2 => exact HC0_1.out); (case side3 => repeat (first | exact (Kd.R_reads' HO104.out).2.2 | (with_reducible refine Kd.C_alloc ?_ _) | (with_reducible refine Kd.C_drewN ?_ _) | (with_reducible refine Kd.C_drew ?_))); (case side4 => exact (Kd.R_reads' HO104.out).2.1); rintro e w15 ⟨rfl, hb⟩; refine ⟨_, rfl, ?_⟩; have n0_ := Aside0.mk (Kd.R_below zz22 hb); have n1_ := Aside0.mk (Kd.R_below (by (with_reducible repeat (first | apply Kd.R_alloc | apply Kd.R_drewN | apply Kd.R_drew)); exact HO107.out) hb); have n2_ := Aside0.mk (blk_below (g := gb101) (o := .cells #[.int .i64 a0_0, .slice A0_1 l0_1.length c0_1] 38 (0, 0)) zz2 hb); have n3_ := Aside0.mk (below_step zz0 hb); clear HO104; clear HO107; clear BK101; clear HB; have HO104 := n0_; have HO107 := n1_; have BK101 := n2_; have HB := n3_; clear n0_ n1_ n2_ n3_; (try clear hb); (try clear hb2); (try clear hk); (try clear hi)))); (go_loopg [10] k (fun kq v10 w' => ∃ (x8_1 : List Int) (x9_1 : List Int) (x10_1 : Int), v10 = .int .i64 x10_1 ∧ Aside0 (impl_stabilize.l0 kq a2 x8_1 x9_1 x10_1 a0_0 l0_1 = some (r1, r2)) ∧ Aside0 (kq ≤ k) ∧ Aside0 (Kd.R (Kd.int .i64) 3 w' w.heap.size (fun k_ => some k_ ≠ (v106 : Value).ownBlock) (.slice Ao14 t102.length co14) x8_1) ∧ Aside0 (Kd.R (Kd.int .i64) 3 w' w.heap.size (fun k_ => some k_ ≠ ((.slice Ao14 t102.length co14) : Value).ownBlock) v106 x9_1) ∧ Aside0 (w'.heap[gb101]? = some (.cells #[.int .i64 a0_0, (.slice A0_1 l0_1.length c0_1)] 38 (0, 0))) ∧ Aside0 (Below w.heap.size w w'))); case atStart => exact ⟨(t102), (y105), (t108), zz6, H', ⟨Nat.le_refl _⟩, ⟨by (with_reducible repeat (first | apply Kd.R_alloc | apply Kd.R_drewN | apply Kd.R_drew)); exact Kd.R_mono HO104.out (fun _ hk => hk.2)⟩, ⟨by (with_reducible repeat (first | apply Kd.R_alloc | apply Kd.R_drewN | apply Kd.R_drew)); exact Kd.R_mono HO107.out (fun _ hk => hk.2)⟩, ⟨by (with_reducible repeat (first | refine blk_drewN ?_ _ | refine blk_drew ?_ | refine blk_alloc ?_ _)); exact BK101.out⟩, ⟨by repeat (first | (with_reducible first | exact HB.out | apply below_alloc | apply pw_below_drewN | apply below_drew1 | refine below_set ?_ GE101.out) | exact HB.out)⟩⟩
  case round =>
    clear H'; (try clear c1); (try clear p2); (try clear c5); (try clear c5b0); (try clear c5b1); (try clear c6); (try clear c6b0); (try clear c6b1); (try clear c12); (try clear c14); (try clear hcz10_0); (try clear hcz10_1); (try clear hcz13_0); (try clear hcz13_1); (try clear hfz10_0); (try clear hfz10_1); (try clear hfz13_0); (try clear hfz13_1); obtain ⟨x8_1, x9_1, x10_1, rfl, HA, HK1, HO_8, HO_9, BK101, HB⟩ := hrel; have hl8_1 := (Kd.R_reads' HO_8.out).1; rw [hl8_1] at HO_8; (try simp only [hl8_1]); (try simp only [hl8_1] at BK101); (try simp only [hl8_1] at HO_9)
    cases gk with
    | zero => exact absurd HA.out (by simp [impl_stabilize.l0])
    | succ k1 =>
      have H := HA.out; clear HA; simp only [impl_stabilize.l0] at H; by_cases c16 : x10_1 ≥ 0; rotate_left
      · rw [if_neg c16] at H; have c16b0 : decide (0 ≤ x10_1) = false := decide_eq_false c16; clear c16; by_cases c34 : 0 ≤ a2; rotate_left
        · rw [if_neg c34] at H; exact absurd H (by simp)
        rw [if_pos c34] at H; have c34b0 : decide (0 ≤ a2) = true := decide_eq_true c34; clear c34; by_cases c35 : a2 < (x8_1.length : Int); rotate_left
        · rw [if_neg c35] at H; exact absurd H (by simp)
        rw [if_pos c35] at H; have c35b0 : decide (a2 < (x8_1.length : Int)) = true := decide_eq_true c35; (try (have c35b88_1 := c35b0; first | rw [hl8_1] at c35b88_1 | rw [← hl8_1] at c35b88_1)); clear c35; obtain ⟨y115, hy115⟩ : ∃ y_ : List Int, y_ = (x8_1.set (a2 : Int).toNat 0) := ⟨_, rfl⟩; (replace H : (some (y115, x9_1)) = some (r1, r2) := by first | (rw [hy115]; with_reducible exact H) | (have H2_ := (Option.bind_some _ _).symm.trans H; rw [hy115]; with_reducible exact H2_) | (have H2_ := (Option.bind_some _ _).symm.trans H; with_reducible exact H2_) | with_reducible exact H | (rw [hy115]; exact H) | exact H); have Ny115 := Aside0.mk hy115; clear hy115; simp only [Option.some.injEq, Prod.mk.injEq] at H; obtain ⟨rfl, rfl⟩ := H; have p36 : 0 ≤ (a2 : Int) := of_decide_eq_true zz4; have q36 : (a2 : Int) < ((x8_1.length : Int) : Int) := of_decide_eq_true zz4; obtain ⟨go36, co36, eo36, gb36, gl36, cl36, HG36⟩ := Kd.R_form HO_8.out (by omega); (first | cases eo36 | (injection eo36 with ea_ en_ ec_; (first | subst ea_ | (injection ea_ with ea_; subst ea_)); subst ec_; clear en_)); have GB36 := Aside0.mk gb36; have GG36 := Aside0.mk HG36; clear gb36 gl36 HG36; obtain ⟨hx36_0, hf36_0⟩ := Kd.R_celln 0 HO_8.out (a2 : Int) p36 q36; replace p36 := eq_true p36; replace q36 := eq_true q36; have HP37 := Kd.R_putg HO_8.out (a2 : Int) 0; (go_wp2_with (first | ((with_reducible refine gate_store (t := 3) (p := 49) rfl ?_); refine store_event (t := 3) (p := 49) (v := ?vo_w38) (w1 := (wr.setCell ⟨go36, (a2 : Int).toNat, none⟩ (.int .i64 0))) ?hg ?ho ?hn ?hr ?_; (case ho => rfl); (case hg => rfl); (case hn => rfl); (case hr => first | (go_simp; done) | (go_simp; rfl)); intro w38 hw; have hg : wr.grownBy w38 (some go36) := (by rw [hw]; exact HP37.2); have hp_ : Kd.R (Kd.int .i64) 3 w38 w.heap.size (fun k_ => some k_ ≠ (v106 : Value).ownBlock) (.slice (some ⟨go36, 0, none⟩) x8_1.length co14) y115 := (by rw [hw, Ny115.out]; exact HP37.1); clear HP37; have n0_ := Aside0.mk (hp_); have n1_ := Aside0.mk (Kd.R_after (v := (.slice (some ⟨go36, 0, none⟩) x8_1.length co14)) (v1 := (.slice (some ⟨go36, 0, none⟩) x8_1.length co14)) (ok := (fun _ => True)) (by (with_reducible repeat (first | apply Kd.R_alloc | apply Kd.R_drewN | apply Kd.R_drew)); exact Kd.R_mono HO_9.out (fun _ hk => ⟨trivial, hk⟩)) hg (.inl rfl)); have n2_ := Aside0.mk (blk_grown (g := gb101) (o := .cells #[.int .i64 a0_0, .slice A0_1 l0_1.length c0_1] 38 (0, 0)) zz2 hg (Kd.R_ne HO_8.out BK101.out (by decide))); have n3_ := Aside0.mk ((by rw [hw]; exact below_set (HB.out) GB36.out : Below w.heap.size w w38)); clear HO_8; clear HO_9; clear BK101; clear HB; have HO_8 := n0_; have HO_9 := n1_; have BK101 := n2_; have HB := n3_; clear n0_ n1_ n2_ n3_; clear hg hw hp_))); (go_ret2); exact ⟨_, _, by first | rfl | (simp [errW_none, errW_some] <;> rfl) | (simp [*, errW_none, errW_some] <;> rfl), by (with_reducible repeat (first | apply Kd.R_alloc | apply Kd.R_drewN | apply Kd.R_drew)); exact HO_8.out, by (with_reducible repeat (first | apply Kd.R_alloc | apply Kd.R_drewN | apply Kd.R_drew)); exact Kd.R_mono HO_9.out (fun _ hk => hk.2), by repeat (first | (with_reducible first | exact HB.out | apply below_alloc | apply pw_below_drewN | apply below_drew1 | refine below_set ?_ GE101.out) | exact HB.out)⟩
      rw [if_pos c16] at H; have c16b0 : decide (0 ≤ x10_1) = true := decide_eq_true c16; clear c16; by_cases c17 : 0 ≤ x10_1; rotate_left
      · rw [if_neg c17] at H; exact absurd H (by simp)
      rw [if_pos c17] at H; have c17b0 : decide (0 ≤ x10_1) = true := decide_eq_true c17; clear c17; by_cases c18 : x10_1 < (x8_1.length : Int); rotate_left
      · rw [if_neg c18] at H; exact absurd H (by simp)
      rw [if_pos c18] at H; have c18b0 : decide (x10_1 < (x8_1.length : Int)) = true := decide_eq_true c18; (try (have c18b88_1 := c18b0; first | rw [hl8_1] at c18b88_1 | rw [← hl8_1] at c18b88_1)); clear c18; replace H := Option.bind_eq_some_iff.mp H; obtain ⟨t110, A190, H⟩ := H; replace H : (if t110 = 0 then (none) else ((impl_fire.f k1 a0_0 l0_1 x8_1 x10_1 (wrap64 (Int.tdiv (rd x8_1 x10_1) t110))).bind fun t111 => (if x10_1 < (x9_1.length : Int) then ((impl_unstable.f k1 a0_0 l0_1 t111 a2).bind fun t114 => (impl_stabilize.l0 k1 a2 t111 (x9_1.set (x10_1 : Int).toNat (wrap64 ((rd x9_1 x10_1) + (wrap64 (Int.tdiv (rd x8_1 x10_1) t110))))) t114 a0_0 l0_1)) else (none)))) = some (r1, r2) := H; have A19 := Aside0.mk A190; clear A190; by_cases c20 : t110 = 0
      · rw [if_pos c20] at H; exact absurd H (by simp)
      rw [if_neg c20] at H; have c20b0 : (t110 == 0) = false := beq_eq_false_iff_ne.mpr c20; have c20b1 : (t110 != 0) = true := bne_iff_ne.mpr c20; replace H := Option.bind_eq_some_iff.mp H; obtain ⟨t111, A210, H⟩ := H; replace H : (if x10_1 < (x9_1.length : Int) then ((impl_unstable.f k1 a0_0 l0_1 t111 a2).bind fun t114 => (impl_stabilize.l0 k1 a2 t111 (x9_1.set (x10_1 : Int).toNat (wrap64 ((rd x9_1 x10_1) + (wrap64 (Int.tdiv (rd x8_1 x10_1) t110))))) t114 a0_0 l0_1)) else (none)) = some (r1, r2) := H; have A21 := Aside0.mk A210; clear A210; by_cases c22 : x10_1 < (x9_1.length : Int); rotate_left
      · rw [if_neg c22] at H; exact absurd H (by simp)
      rw [if_pos c22] at H; have c22b0 : decide (x10_1 < (x9_1.length : Int)) = true := decide_eq_true c22; (try (have c22b88_1 := c22b0; first | rw [hl8_1] at c22b88_1 | rw [← hl8_1] at c22b88_1)); clear c22; obtain ⟨y113, hy113⟩ : ∃ y_ : List Int, y_ = (x9_1.set (x10_1 : Int).toNat (wrap64 ((rd x9_1 x10_1) + (wrap64 (Int.tdiv (rd x8_1 x10_1) t110))))) := ⟨_, rfl⟩; (replace H : ((impl_unstable.f k1 a0_0 l0_1 t111 a2).bind fun t114 => (impl_stabilize.l0 k1 a2 t111 y113 t114 a0_0 l0_1)) = some (r1, r2) := by first | (rw [hy113]; with_reducible exact H) | (have H2_ := (Option.bind_some _ _).symm.trans H; rw [hy113]; with_reducible exact H2_) | (have H2_ := (Option.bind_some _ _).symm.trans H; with_reducible exact H2_) | with_reducible exact H | (rw [hy113]; exact H) | exact H); have Ny113 := Aside0.mk hy113; clear hy113; replace H := Option.bind_eq_some_iff.mp H; obtain ⟨t114, A240, H⟩ := H; replace H : (impl_stabilize.l0 k1 a2 t111 y113 t114 a0_0 l0_1) = some (r1, r2) := H; have A24 := Aside0.mk A240; clear A240; have H' := Aside0.mk H; clear H; (try go_wp2); have n0_ := Aside0.mk (Kd.R_drew HO_8.out); have n1_ := Aside0.mk (Kd.R_drew HO_9.out); have n2_ := Aside0.mk (blk_drew BK101.out); have n3_ := Aside0.mk (below_drew1 HB.out); clear HO_8; clear HO_9; clear BK101; clear HB; have HO_8 := n0_; have HO_9 := n1_; have BK101 := n2_; have HB := n3_; clear n0_ n1_ n2_ n3_; have p109 : 0 ≤ (x10_1 : Int) := of_decide_eq_true zz4; have q109 : x10_1 < (x8_1.length : Int) := of_decide_eq_true zz4; obtain ⟨ad109, e109, hx109_0⟩ := Kd.at_int (Kd.R_reads' HO_8.out).2.2 x10_1 p109 q109; cases e109; replace p109 := eq_true p109; replace q109 := eq_true q109; refine start_ (n := 9) (S := fun w' => w'.cell? ⟨gb101, 0, none⟩ = some (.int .i64 a0_0) ∧ w'.cell? ⟨gb101, 1, none⟩ = some (.slice A0_1 l0_1.length c0_1) ∧ w'.cell? (ad109.add (x10_1).toNat) = some (.int .i64 (rd x8_1 x10_1))) (ds := []) #[false, false, false, false, false, false, false, false, false] (by kernel_rfl) rfl rfl ⟨(blk_cell BK101.out 0).trans rfl, (blk_cell BK101.out 1).trans rfl, hx109_0⟩ (fun hHeld => ?_); refine with_tabW impl_stabilize.tab6 impl_stabilize.bits6 (fun HT_ HW_ => ?_); generalize wr.drew = w25 at HO_8 HO_9 BK101 HB hx109_0 hHeld ⊢; refine pure_ (i := 0) (N := some 27) (v := ?_) (a' := ?_) #[true, false, false, false, false, false, false, false, false] rfl rfl (any_of HT_.out (by kernel_rfl)) (fun _ _ _ h => h) (Or.inl ⟨by rfl, ?_⟩) ?_ ?_; rotate_left
      · intro w'; exact zzT
      rotate_left
      · exact zzS
      refine pure_ (i := 1) (N := some 28) (v := ?_) (a' := ?_) #[true, true, false, false, false, false, false, false, false] rfl rfl (any_of HT_.out (by kernel_rfl)) (fun _ _ _ h => h) (Or.inl ⟨by rfl, ?_⟩) ?_ ?_; rotate_left
      · intro w'; exact zzT
      rotate_left
      · exact zzS
      refine pure_ (i := 2) (N := some 29) (v := ?_) (a' := ?_) #[true, true, true, false, false, false, false, false, false] rfl rfl (any_of HT_.out (by kernel_rfl)) (fun _ _ _ h => h) (Or.inl ⟨by rfl, ?_⟩) ?_ ?_; rotate_left
      · intro w'; exact zzT
      rotate_left
      · exact zzS
      refine pure_ (i := 5) (N := some 32) (v := ?_) (a' := ?_) #[true, true, true, false, false, true, false, false, false] rfl rfl (any_of HT_.out (by kernel_rfl)) (fun _ _ _ h => h) (Or.inl ⟨by rfl, ?_⟩) ?_ ?_; rotate_left
      · intro w'; exact zzT
      rotate_left
      · exact zzS
      refine take_ (i := 3) (N := some 30) (v := ?_) (a' := ?_) #[true, true, true, true, false, true, false, false, false] rfl rfl (take_ofW HT_.out HW_.out (by kernel_rfl)) (fun _ _ _ h => h) (Or.inl ⟨by rfl, ?_⟩) hHeld ?_ ?_; rotate_left
      · rintro w' ⟨s0, s1, s2⟩; exact zzT
      rotate_left
      · exact zzS
      refine take_ (i := 4) (N := some 31) (v := ?_) (a' := ?_) #[true, true, true, true, true, true, false, false, false] rfl rfl (take_ofW HT_.out HW_.out (by kernel_rfl)) (fun _ _ _ h => h) (Or.inl ⟨by rfl, ?_⟩) hHeld ?_ ?_; rotate_left
      · rintro w' ⟨s0, s1, s2⟩; exact zzT
      rotate_left
      · exact zzS
      refine one_ (i := 6) (N := some 33) #[true, true, true, true, true, true, true, false, false] rfl rfl (one_of HT_.out (by kernel_rfl)) (by decide) (fun K hK => ?_); refine goes_ Try.func115 (by kernel_rfl) rfl #[.agg #[.int .i64 a0_0, .slice A0_1 l0_1.length c0_1], .int .i64 x10_1] (by rfl) rfl rfl zz3 ?_; (with_reducible refine (impl_Valence.calls k1 a0_0 _ _ l0_1 x10_1 t110 _ ?side1 ?side2 A19.out).mono ?_); (case side1 => repeat (first | exact (Kd.C_below HR0_1.out HB.out) | (with_reducible refine Kd.C_alloc ?_ _) | (with_reducible refine Kd.C_drewN ?_ _) | (with_reducible refine Kd.C_drew ?_))); (case side2 => exact HC0_1.out); rintro e w26 ⟨rfl, hb⟩; have HS2_ := (hb.cell (World.block_lt_of_cell? _ _ (hHeld.2.2))).trans (hHeld.2.2); refine ⟨_, rfl, ?_⟩; have n0_ := Aside0.mk (Kd.R_below zz14 hb); have n1_ := Aside0.mk (Kd.R_below zz15 hb); have n2_ := Aside0.mk (blk_below (g := gb101) (o := .cells #[.int .i64 a0_0, .slice A0_1 l0_1.length c0_1] 38 (0, 0)) zz2 hb); have n3_ := Aside0.mk (below_step zz0 hb); clear HO_8; clear HO_9; clear BK101; clear HB; have HO_8 := n0_; have HO_9 := n1_; have BK101 := n2_; have HB := n3_; clear n0_ n1_ n2_ n3_; (try clear hb); (try clear hb2); (try clear hk); (try clear hi); refine hK.out _ _ ⟨(blk_cell BK101.out 0).trans rfl, (blk_cell BK101.out 1).trans rfl, HS2_⟩ (fun hHeld => ?_); clear hK K; refine norm_ (a' := ?_) ?_ ?_; rotate_left
      · show Act.put _ (some 33) _ = _; exact zzS
      refine pure_ (i := 7) (N := some 34) (v := ?_) (a' := ?_) #[true, true, true, true, true, true, true, true, false] rfl rfl (any_of HT_.out (by kernel_rfl)) (fun _ _ _ h => h) (Or.inl ⟨by rfl, ?_⟩) ?_ ?_; rotate_left
      · intro w'; exact zzT
      rotate_left
      · exact zzS
      refine pure_ (i := 8) (N := some 11) (v := ?_) (a' := ?_) #[true, true, true, true, true, true, true, true, true] rfl rfl (any_of HT_.out (by kernel_rfl)) (fun _ _ _ h => h) (Or.inl ⟨by rfl, ?_⟩) ?_ ?_; rotate_left
      · intro w'; exact zzT
      rotate_left
      · exact zzS
      refine done_ (done_of HT_.out (by kernel_rfl)) ?_; have hcz27_0 : w26.cell? ⟨gb101, 0, none⟩ = some (.int .i64 a0_0) := (blk_cell BK101.out 0).trans rfl; have hcz27_1 : w26.cell? ⟨gb101, 1, none⟩ = some (.slice A0_1 l0_1.length c0_1) := (blk_cell BK101.out 1).trans rfl; have hfz27_0 := blk_frozen BK101.out 0; have hfz27_1 := blk_frozen BK101.out 1; (try go_wp2_with (first | ((with_reducible refine gate_callee (f := 137) rfl ?_); refine goesL_ (some 39) rfl rfl Try.func137 (by kernel_rfl) rfl #[.agg #[.int .i64 a0_0, .slice A0_1 l0_1.length c0_1], .slice (some ad109) x8_1.length co14, .int .i64 x10_1, .int .i64 (wrap64 (Int.tdiv (rd x8_1 x10_1) t110))] rfl zz3 ?_; (with_reducible refine (impl_fire.calls k1 a0_0 _ _ l0_1 (fun k_ => some k_ = (.slice (some ad109) x8_1.length co14 : Value).ownBlock) (.slice (some ad109) x8_1.length co14) x8_1 x10_1 (wrap64 (Int.tdiv (rd x8_1 x10_1) t110)) t111 w _ ?side1 ?side2 ?side3 ?side4 A21.out).mono ?_); (case side1 => repeat (first | (with_reducible first | exact HB.out | apply below_alloc | apply pw_below_drewN | apply below_drew1 | refine below_set ?_ GE101.out) | exact HB.out)); (case side2 => exact Kd.C_kept_came k70_heap HR0_1.out zz0 (fun k_ hs_ => (fun e_ => Kd.R_base HO_8.out k_ e_.symm) hs_)); (case side3 => exact HC0_1.out); (case side4 => exact Kd.R_tight rfl HO_8.out); rintro e w28 ⟨rfl, hy0, hb, hkp⟩; refine ⟨_, rfl, ?_⟩; have n0_ := Aside0.mk (Kd.R_reok rfl hy0 (fun k_ e_ => HO_8.out.1 k_ e_)); have n1_ := Aside0.mk (Kd.R_mono (ok' := fun k_ => some k_ ≠ (.slice (some ad109) x8_1.length co14 : Value).ownBlock) (Kd.R_keptB (HO_9.out) hkp (fun k_ hk_ hs_ => (hk_) hs_)) (fun k_ hk_ => hk_.1)); have n2_ := Aside0.mk (blk_kept zz2 hkp (fun hs_ => (fun e_ => (Kd.R_ne HO_8.out BK101.out (by decide)) e_) hs_)); have n3_ := Aside0.mk (hb); clear HO_8; clear HO_9; clear BK101; clear HB; have HO_8 := n0_; have HO_9 := n1_; have BK101 := n2_; have HB := n3_; clear n0_ n1_ n2_ n3_; (try clear hb); (try clear hkp); (try clear hy0); obtain ⟨Ao29, co29, eo29⟩ := Kd.R_slice HO_9.out; subst eo29; have p112 : 0 ≤ (x10_1 : Int) := of_decide_eq_true zz4; have q112 : x10_1 < (x9_1.length : Int) := of_decide_eq_true zz4; obtain ⟨ad112, e112, hx112_0⟩ := Kd.at_int (Kd.R_reads' HO_9.out).2.2 x10_1 p112 q112; cases e112; replace p112 := eq_true p112; replace q112 := eq_true q112; have p23 : 0 ≤ (x10_1 : Int) := of_decide_eq_true zz4; have q23 : (x10_1 : Int) < ((x9_1.length : Int) : Int) := of_decide_eq_true zz4; obtain ⟨go23, co23, eo23, gb23, gl23, cl23, HG23⟩ := Kd.R_form HO_9.out (by omega); (first | cases eo23 | (injection eo23 with ea_ en_ ec_; (first | subst ea_ | (injection ea_ with ea_; subst ea_)); subst ec_; clear en_)); have GB23 := Aside0.mk gb23; have GG23 := Aside0.mk HG23; clear gb23 gl23 HG23; (first | simp only [add_plain] at hx112_0 | skip); obtain ⟨hx23_0, hf23_0⟩ := Kd.R_celln 0 HO_9.out (x10_1 : Int) p23 q23; replace p23 := eq_true p23; replace q23 := eq_true q23; obtain ⟨hy30_, hz30_⟩ := Kd.R_celln 0 HO_9.out (x10_1 : Int) (of_decide_eq_true zz4) (of_decide_eq_true zz4); have HP30 := Kd.R_putg HO_9.out (x10_1 : Int) (wrap64 ((rd x9_1 x10_1) + (wrap64 (Int.tdiv (rd x8_1 x10_1) t110))))) | ((with_reducible refine gate_store (t := 3) (p := 46) rfl ?_); refine store_event (t := 3) (p := 46) (v := ?vo_w31) (w1 := (w28.setCell ⟨go23, (x10_1 : Int).toNat, none⟩ (.int .i64 (wrap64 ((rd x9_1 x10_1) + (wrap64 (Int.tdiv (rd x8_1 x10_1) t110))))))) ?hg ?ho ?hn ?hr ?_; (case ho => rfl); (case hg => rfl); (case hn => rfl); (case hr => first | (go_simp; done) | (go_simp; rfl)); intro w31 hw; have hg : w28.grownBy w31 (some go23) := (by rw [hw]; exact HP30.2); have hp_ : Kd.R (Kd.int .i64) 3 w31 w.heap.size (fun k_ => some k_ ≠ (.slice (some ad109) x8_1.length co14 : Value).ownBlock) (.slice (some ⟨go23, 0, none⟩) x9_1.length co29) y113 := (by rw [hw, Ny113.out]; exact HP30.1); clear HP30; have n0_ := Aside0.mk (Kd.R_after (v := (.slice (some ⟨go23, 0, none⟩) x9_1.length co29)) (v1 := (.slice (some ⟨go23, 0, none⟩) x9_1.length co29)) (ok := (fun _ => True)) (by (with_reducible repeat (first | apply Kd.R_alloc | apply Kd.R_drewN | apply Kd.R_drew)); exact Kd.R_mono HO_8.out (fun _ hk => ⟨trivial, hk⟩)) hg (.inl rfl)); have n1_ := Aside0.mk (hp_); have n2_ := Aside0.mk (blk_grown (g := gb101) (o := .cells #[.int .i64 a0_0, .slice A0_1 l0_1.length c0_1] 38 (0, 0)) zz2 hg (Kd.R_ne HO_9.out BK101.out (by decide))); have n3_ := Aside0.mk ((by rw [hw]; exact below_set (HB.out) GB23.out : Below w.heap.size w w31)); clear HO_8; clear HO_9; clear BK101; clear HB; have HO_8 := n0_; have HO_9 := n1_; have BK101 := n2_; have HB := n3_; clear n0_ n1_ n2_ n3_; clear hg hw hp_; have hcz32_0 : w31.cell? ⟨gb101, 0, none⟩ = some (.int .i64 a0_0) := (blk_cell BK101.out 0).trans rfl; have hcz32_1 : w31.cell? ⟨gb101, 1, none⟩ = some (.slice A0_1 l0_1.length c0_1) := (blk_cell BK101.out 1).trans rfl; have hfz32_0 := blk_frozen BK101.out 0; have hfz32_1 := blk_frozen BK101.out 1) | ((with_reducible refine gate_callee (f := 186) rfl ?_); refine goesL_ (some 26) rfl rfl Try.func186 (by kernel_rfl) rfl #[.agg #[.int .i64 a0_0, .slice A0_1 l0_1.length c0_1], .slice (some ad109) t111.length co14, .int .i64 a2] rfl (by (try simp only [List.map_toArray, List.map_cons, List.map_nil]); first | done | (rw [show t111.length = x8_1.length from (Kd.R_reads' HO_8.out).1.symm] <;> rfl) | rfl | (simp only [List.length_drop, List.length_take]; rfl)) ?_; (with_reducible refine (impl_unstable.calls k1 a0_0 _ _ l0_1 _ _ t111 a2 t114 _ ?side1 ?side2 ?side3 ?side4 A24.out).mono ?_); (case side1 => repeat (first | exact (Kd.C_below HR0_1.out HB.out) | (with_reducible refine Kd.C_alloc ?_ _) | (with_reducible refine Kd.C_drewN ?_ _) | (with_reducible refine Kd.C_drew ?_))); (case side2 => exact HC0_1.out); (case side3 => repeat (first | exact (Kd.R_reads' HO_8.out).2.2 | (with_reducible refine Kd.C_alloc ?_ _) | (with_reducible refine Kd.C_drewN ?_ _) | (with_reducible refine Kd.C_drew ?_))); (case side4 => rw [show t111.length = x8_1.length from (Kd.R_reads' HO_8.out).1.symm]; exact (Kd.R_reads' HO_8.out).2.1); rintro e w33 ⟨rfl, hb⟩; refine ⟨_, rfl, ?_⟩; have n0_ := Aside0.mk (Kd.R_below zz14 hb); have n1_ := Aside0.mk (Kd.R_below zz15 hb); have n2_ := Aside0.mk (blk_below (g := gb101) (o := .cells #[.int .i64 a0_0, .slice A0_1 l0_1.length c0_1] 38 (0, 0)) zz2 hb); have n3_ := Aside0.mk (below_step zz0 hb); clear HO_8; clear HO_9; clear BK101; clear HB; have HO_8 := n0_; have HO_9 := n1_; have BK101 := n2_; have HB := n3_; clear n0_ n1_ n2_ n3_; (try clear hb); (try clear hb2); (try clear hk); (try clear hi)))); (try simp only [← hl8_1]); go_roundg k1; (case measure => have := HK1.out; omega); case rel => exact ⟨(t111), (y113), (t114), zz6, H', ⟨by have := HK1.out; omega⟩, ⟨by (try simp only [hl8_1]); (with_reducible repeat (first | apply Kd.R_alloc | apply Kd.R_drewN | apply Kd.R_drew)); exact Kd.R_mono HO_8.out (fun _ hk => hk.2)⟩, ⟨by (try simp only [hl8_1]); (with_reducible repeat (first | apply Kd.R_alloc | apply Kd.R_drewN | apply Kd.R_drew)); exact HO_9.out⟩, ⟨by (try simp only [hl8_1]); (with_reducible repeat (first | refine blk_drewN ?_ _ | refine blk_drew ?_ | refine blk_alloc ?_ _)); exact BK101.out⟩, ⟨by repeat (first | (with_reducible first | exact HB.out | apply below_alloc | apply pw_below_drewN | apply below_drew1 | refine below_set ?_ GE101.out) | exact HB.out)⟩⟩
end Go.Proofs.Ytjecgolakaiddaa.P
end

section
namespace Go.Proofs.Ytjecgolakaiddaa.P
open Go.RowKit Go.Proofs.YtjecgolakaiddaaW.PrintWords Go.Proofs.YtjecgolakaiddaaW.PrintLast Go.Proofs.YtjecgolakaiddaaW.PrintMore
attribute [local go_sem] max2_int min2_int max_two min_two max_three min_three max_four min_four
set_option linter.unusedVariables false
set_option linter.unusedSimpArgs false
def impl_Stabilize.f (k : Nat) (a0_0 : Int) (l0_1 : List (S70)) (l1 : List Int) (a2 : Int) : Option (List Int × List Int × Bool) := (impl_PileOk.f k a0_0 l0_1 l1 a2).bind fun t102 => (if t102 = true then ((impl_stabilize.f k a0_0 l0_1 l1 a2).bind fun bt103 => (some (bt103.1, bt103.2, true))) else (some (([] : List Int), ([] : List Int), false)))
theorem impl_Stabilize.mono : ∀ a0 a1 a2 a3 k, LeO (impl_Stabilize.f k a0 a1 a2 a3) (impl_Stabilize.f (k + 1) a0 a1 a2 a3) := by
  intro a0 a1 a2 a3 k; unfold impl_Stabilize.f
  repeat' first
      | (with_reducible exact impl_PileOk.mono _ _ _ _ _)
      | (with_reducible exact impl_stabilize.mono _ _ _ _ _)
      | (with_reducible exact LeO.refl _)
      | (with_reducible exact LeO.none _)
      | (with_reducible refine LeO.ite ?_ ?_)
      | (with_reducible refine LeO.bind ?_ (fun _ => ?_))
      | exact impl_PileOk.mono _ _ _ _ _
      | exact impl_stabilize.mono _ _ _ _ _
      | exact LeO.none _
      | refine LeO.ite ?_ ?_
      | refine LeO.bind ?_ (fun _ => ?_)
set_option maxHeartbeats 8000000 in
set_option maxRecDepth 100000 in
theorem impl_Stabilize.calls (k : Nat) (a0_0 : Int) (A0_1 : Option Addr) (c0_1 : Nat) (l0_1 : List (S70)) (A1 : Option Addr) (c1 : Nat) (l1 : List Int) (a2 : Int) (r1 : List Int) (r2 : List Int) (r3 : Bool) (w : World) (hr0_1 : Kd.C k70 w A0_1 l0_1.length l0_1) (hc0_1 : l0_1.length ≤ c0_1) (hr1 : Kd.C (Kd.int .i64) w A1 l1.length l1) (hc1 : l1.length ≤ c1) (h : impl_Stabilize.f k a0_0 l0_1 l1 a2 = some (r1, r2, r3)) :
    Calls Try.prog 73 #[.agg #[.int .i64 a0_0, .slice A0_1 l0_1.length c0_1], .slice A1 l1.length c1, .int .i64 a2] w fun e w' => ∃ v0_ v1_ : Value, e = .returned (.tuple #[v0_, v1_, .bool r3]) ∧ Kd.R (Kd.int .i64) 3 w' w.heap.size (fun k_ => some k_ ≠ (v1_ : Value).ownBlock) v0_ r1 ∧ Kd.R (Kd.int .i64) 3 w' w.heap.size (fun k_ => some k_ ≠ (v0_ : Value).ownBlock) v1_ r2 ∧ Below w.heap.size w w' := by
  have hu38 := Try.underlying38; have HR0_1 := Aside0.mk hr0_1; have HC0_1 := Aside0.mk hc0_1; clear hr0_1 hc0_1; have HR1 := Aside0.mk hr1; have HC1 := Aside0.mk hc1; clear hr1 hc1; have HB := Aside0.mk (Below.refl w.heap.size w); have H : ((impl_PileOk.f k a0_0 l0_1 l1 a2).bind fun t102 => (if t102 = true then ((impl_stabilize.f k a0_0 l0_1 l1 a2).bind fun bt103 => (some (bt103.1, bt103.2, true))) else (some (([] : List Int), ([] : List Int), false)))) = some (r1, r2, r3) := h; clear h; replace H := Option.bind_eq_some_iff.mp H; obtain ⟨t102, A40, H⟩ := H; replace H : (if t102 = true then ((impl_stabilize.f k a0_0 l0_1 l1 a2).bind fun bt103 => (some (bt103.1, bt103.2, true))) else (some (([] : List Int), ([] : List Int), false))) = some (r1, r2, r3) := H; have A4 := Aside0.mk A40; clear A40; by_cases c5 : t102 = true; rotate_left
  · replace c5 := Bool.eq_false_iff.mpr c5; subst c5; (have H1 : (some (([] : List Int), ([] : List Int), false)) = some (r1, r2, r3) := by rw [if_neg (show ¬ (false = true) by decide)] at H; exact H); clear H; have H := H1; clear H1; simp only [Option.some.injEq, Prod.mk.injEq] at H; obtain ⟨rfl, rfl, rfl⟩ := H; go_enter Try.func73, Try.ntmps73; (go_wp2_with (first | ((with_reducible refine gate_dst (N := 3) rfl ?_); refine box_event ?hg (N := 3) ?hd (cs := #[.int .i64 a0_0, .slice A0_1 l0_1.length c0_1]) (t := 38) ?hr ?_; (case hd => rfl); (case hg => rfl); (case hr => first | (go_simp; done) | (go_simp; rfl)); intro gb101 hg w12 hbox hb; have n0_ := Aside0.mk (below_step zz1 hb); have n1_ := Aside0.mk (hbox); have n2_ := Aside0.mk ((zz7 : w.heap.size ≤ gb101)); have n3_ := Aside0.mk ((zz7 : w.heap.size ≤ gb101)); clear HB; have HB := n0_; have BK101 := n1_; have GW101 := n2_; have GE101 := n3_; clear n0_ n1_ n2_ n3_; clear hb hbox hg; have hcz13_0 : w12.cell? ⟨gb101, 0, none⟩ = some (.int .i64 a0_0) := (blk_cell BK101.out 0).trans rfl; have hcz13_1 : w12.cell? ⟨gb101, 1, none⟩ = some (.slice A0_1 l0_1.length c0_1) := (blk_cell BK101.out 1).trans rfl; have hfz13_0 := blk_frozen BK101.out 0; have hfz13_1 := blk_frozen BK101.out 1) | ((with_reducible refine gate_callee (f := 136) rfl ?_); refine goesL_ (some 14) rfl rfl Try.func136 (by kernel_rfl) rfl #[.agg #[.int .i64 a0_0, .slice A0_1 l0_1.length c0_1], .slice A1 l1.length c1, .int .i64 a2] rfl zz3 ?_; (with_reducible refine (impl_PileOk.calls k a0_0 _ _ l0_1 _ _ l1 a2 false _ ?side1 ?side2 ?side3 ?side4 A4.out).mono ?_); (case side1 => repeat (first | exact (Kd.C_below HR0_1.out HB.out) | (with_reducible refine Kd.C_alloc ?_ _) | (with_reducible refine Kd.C_drewN ?_ _) | (with_reducible refine Kd.C_drew ?_))); (case side2 => exact HC0_1.out); (case side3 => repeat (first | exact (Kd.C_below HR1.out HB.out) | (with_reducible refine Kd.C_alloc ?_ _) | (with_reducible refine Kd.C_drewN ?_ _) | (with_reducible refine Kd.C_drew ?_))); (case side4 => exact HC1.out); rintro e w14 ⟨rfl, hb⟩; refine ⟨_, rfl, ?_⟩; have n0_ := Aside0.mk (blk_below (g := gb101) (o := .cells #[.int .i64 a0_0, .slice A0_1 l0_1.length c0_1] 38 (0, 0)) zz2 hb); have n1_ := Aside0.mk (below_step zz0 hb); clear BK101; clear HB; have BK101 := n0_; have HB := n1_; clear n0_ n1_; (try clear hb); (try clear hb2); (try clear hk); (try clear hi)))); (go_ret3); exact ⟨_, _, by first | rfl | (simp [errW_none, errW_some] <;> rfl) | (simp [*, errW_none, errW_some] <;> rfl), by first | exact Kd.R_nil _ _ _ _ _ | exact Kd.N_nil _ _ _ _ _ | exact Kd.V_nil _ _ _ _ _ | exact Kd.Q_nil _ _ _ _ _ | exact Kd.S_nil _ _ _ _ _, by first | exact Kd.R_nil _ _ _ _ _ | exact Kd.N_nil _ _ _ _ _ | exact Kd.V_nil _ _ _ _ _ | exact Kd.Q_nil _ _ _ _ _ | exact Kd.S_nil _ _ _ _ _, by repeat (first | (with_reducible first | exact HB.out | apply below_alloc | apply pw_below_drewN | apply below_drew1 | refine below_set ?_ GE101.out) | exact HB.out)⟩
  subst c5; (have H1 : ((impl_stabilize.f k a0_0 l0_1 l1 a2).bind fun bt103 => (some (bt103.1, bt103.2, true))) = some (r1, r2, r3) := by rw [if_pos rfl] at H; exact H); clear H; have H := H1; clear H1; replace H := Option.bind_eq_some_iff.mp H; obtain ⟨⟨t103, t106⟩, A60, H⟩ := H; replace H : (some (t103, t106, true)) = some (r1, r2, r3) := H; have A6 := Aside0.mk A60; clear A60; simp only [Option.some.injEq, Prod.mk.injEq] at H; obtain ⟨rfl, rfl, rfl⟩ := H; go_enter Try.func73, Try.ntmps73; (go_wp2_with (first | ((with_reducible refine gate_dst (N := 3) rfl ?_); refine box_event ?hg (N := 3) ?hd (cs := #[.int .i64 a0_0, .slice A0_1 l0_1.length c0_1]) (t := 38) ?hr ?_; (case hd => rfl); (case hg => rfl); (case hr => first | (go_simp; done) | (go_simp; rfl)); intro gb101 hg w7 hbox hb; have n0_ := Aside0.mk (below_step zz1 hb); have n1_ := Aside0.mk (hbox); have n2_ := Aside0.mk ((zz7 : w.heap.size ≤ gb101)); have n3_ := Aside0.mk ((zz7 : w.heap.size ≤ gb101)); clear HB; have HB := n0_; have BK101 := n1_; have GW101 := n2_; have GE101 := n3_; clear n0_ n1_ n2_ n3_; clear hb hbox hg; have hcz8_0 : w7.cell? ⟨gb101, 0, none⟩ = some (.int .i64 a0_0) := (blk_cell BK101.out 0).trans rfl; have hcz8_1 : w7.cell? ⟨gb101, 1, none⟩ = some (.slice A0_1 l0_1.length c0_1) := (blk_cell BK101.out 1).trans rfl; have hfz8_0 := blk_frozen BK101.out 0; have hfz8_1 := blk_frozen BK101.out 1) | ((with_reducible refine gate_callee (f := 136) rfl ?_); refine goesL_ (some 14) rfl rfl Try.func136 (by kernel_rfl) rfl #[.agg #[.int .i64 a0_0, .slice A0_1 l0_1.length c0_1], .slice A1 l1.length c1, .int .i64 a2] rfl zz3 ?_; (with_reducible refine (impl_PileOk.calls k a0_0 _ _ l0_1 _ _ l1 a2 true _ ?side1 ?side2 ?side3 ?side4 A4.out).mono ?_); (case side1 => repeat (first | exact (Kd.C_below HR0_1.out HB.out) | (with_reducible refine Kd.C_alloc ?_ _) | (with_reducible refine Kd.C_drewN ?_ _) | (with_reducible refine Kd.C_drew ?_))); (case side2 => exact HC0_1.out); (case side3 => repeat (first | exact (Kd.C_below HR1.out HB.out) | (with_reducible refine Kd.C_alloc ?_ _) | (with_reducible refine Kd.C_drewN ?_ _) | (with_reducible refine Kd.C_drew ?_))); (case side4 => exact HC1.out); rintro e w9 ⟨rfl, hb⟩; refine ⟨_, rfl, ?_⟩; have n0_ := Aside0.mk (blk_below (g := gb101) (o := .cells #[.int .i64 a0_0, .slice A0_1 l0_1.length c0_1] 38 (0, 0)) zz2 hb); have n1_ := Aside0.mk (below_step zz0 hb); clear BK101; clear HB; have BK101 := n0_; have HB := n1_; clear n0_ n1_; (try clear hb); (try clear hb2); (try clear hk); (try clear hi); have hcz10_0 : w9.cell? ⟨gb101, 0, none⟩ = some (.int .i64 a0_0) := (blk_cell BK101.out 0).trans rfl; have hcz10_1 : w9.cell? ⟨gb101, 1, none⟩ = some (.slice A0_1 l0_1.length c0_1) := (blk_cell BK101.out 1).trans rfl; have hfz10_0 := blk_frozen BK101.out 0; have hfz10_1 := blk_frozen BK101.out 1) | ((with_reducible refine gate_callee (f := 143) rfl ?_); refine goesL_ (some 20) rfl rfl Try.func143 (by kernel_rfl) rfl #[.agg #[.int .i64 a0_0, .slice A0_1 l0_1.length c0_1], .slice A1 l1.length c1, .int .i64 a2] rfl zz3 ?_; (with_reducible refine (impl_stabilize.calls k a0_0 _ _ l0_1 _ _ l1 a2 t103 t106 _ ?side1 ?side2 ?side3 ?side4 A6.out).mono ?_); (case side1 => repeat (first | exact (Kd.C_below HR0_1.out HB.out) | (with_reducible refine Kd.C_alloc ?_ _) | (with_reducible refine Kd.C_drewN ?_ _) | (with_reducible refine Kd.C_drew ?_))); (case side2 => exact HC0_1.out); (case side3 => repeat (first | exact (Kd.C_below HR1.out HB.out) | (with_reducible refine Kd.C_alloc ?_ _) | (with_reducible refine Kd.C_drewN ?_ _) | (with_reducible refine Kd.C_drew ?_))); (case side4 => exact HC1.out); rintro e w11 ⟨v104, v107, rfl, ho0, ho1, hb⟩; refine ⟨_, rfl, ?_⟩; have n0_ := Aside0.mk (Kd.R_lower ho0 (below_size zz0)); have n1_ := Aside0.mk (Kd.R_lower ho1 (below_size zz0)); have n2_ := Aside0.mk (blk_below (g := gb101) (o := .cells #[.int .i64 a0_0, .slice A0_1 l0_1.length c0_1] 38 (0, 0)) zz2 hb); have n3_ := Aside0.mk (below_step zz0 hb); clear BK101; clear HB; have HO105 := n0_; have HO108 := n1_; have BK101 := n2_; have HB := n3_; clear n0_ n1_ n2_ n3_; (try clear hb); (try clear hb2); (try clear hk); (try clear hi); (try clear ho0); (try clear ho1)))); (go_ret3); exact ⟨_, _, by first | rfl | (simp [errW_none, errW_some] <;> rfl) | (simp [*, errW_none, errW_some] <;> rfl), by (with_reducible repeat (first | apply Kd.R_alloc | apply Kd.R_drewN | apply Kd.R_drew)); exact HO105.out, by (with_reducible repeat (first | apply Kd.R_alloc | apply Kd.R_drewN | apply Kd.R_drew)); exact HO108.out, by repeat (first | (with_reducible first | exact HB.out | apply below_alloc | apply pw_below_drewN | apply below_drew1 | refine below_set ?_ GE101.out) | exact HB.out)⟩
end Go.Proofs.Ytjecgolakaiddaa.P
end

section
namespace Go.Proofs.Ytjecgolakaiddaa.P
open Go.RowKit Go.Proofs.YtjecgolakaiddaaW.PrintWords Go.Proofs.YtjecgolakaiddaaW.PrintLast Go.Proofs.YtjecgolakaiddaaW.PrintMore
attribute [local go_sem] max2_int min2_int max_two min_two max_three min_three max_four min_four
set_option linter.unusedVariables false
set_option linter.unusedSimpArgs false
mutual
def laws_FnExactStabilize.j0 : Nat → List Int → Int → List Int → List Int → Bool → List Int → List Int → List Int → Bool → Bool → Int → List (S96) → Int → List (S70) → Option (Bool)
  | 0, _, _, _, _, _, _, _, _, _, _, _, _, _, _ => none
  | k + 1, x1, x2, x8, x9, x10, x12, x13, x14, x15, x66, x102000, x102001, x122000, x122001 => if x66 = true then (none) else ((laws_toGraph.f k x102000 x102001).bind fun bt134 => ((laws_eqGraph.f k x122000 x122001 bt134.1 bt134.2).bind fun t138 => (if t138 = true then ((laws_toIntS.f k x1).bind fun t139 => ((laws_eqIntS.f k x12 t139).bind fun t142 => (if t142 = true then ((laws_markGraph.f k x122000 x122001 1).bind fun bt143 => ((laws_markIntS.f k x12 bt143.1).bind fun bt145 => (if bt145.1 < 0 then (laws_FnExactStabilize.j1 k x1 x2 x8 x9 x10 x13 x14 true x102000 x102001) else ((laws_eqIntS.f k x13 x8).bind fun t147 => (if t147 = true then ((laws_eqIntS.f k x14 x9).bind fun t148 => (if t148 = true then (laws_FnExactStabilize.j1 k x1 x2 x8 x9 x10 x13 x14 (x15 != x10) x102000 x102001) else (laws_FnExactStabilize.j1 k x1 x2 x8 x9 x10 x13 x14 true x102000 x102001))) else (laws_FnExactStabilize.j1 k x1 x2 x8 x9 x10 x13 x14 true x102000 x102001)))))) else (none)))) else (none))))
def laws_FnExactStabilize.j1 : Nat → List Int → Int → List Int → List Int → Bool → List Int → List Int → Bool → Int → List (S96) → Option (Bool)
  | 0, _, _, _, _, _, _, _, _, _, _ => none
  | k + 1, x1, x2, x8, x9, x10, x13, x14, x101, x102000, x102001 => if x101 = true then (none) else ((laws_markIntS.f k x13 1).bind fun bt149 => ((laws_markIntS.f k x14 bt149.1).bind fun bt151 => ((laws_heldIntS.f k bt149.2 1).bind fun t153 => (if t153 < 0 then (none) else ((laws_heldIntS.f k bt151.2 t153).bind fun t154 => (if t154 < 0 then (none) else (if t154 = bt151.1 then ((laws_toGraph.f k x102000 x102001).bind fun bt155 => ((laws_toIntS.f k x1).bind fun t159 => ((impl_Stabilize.f k bt155.1 bt155.2 t159 x2).bind fun bt162 => ((laws_eqIntS.f k bt162.1 x8).bind fun t169 => (if t169 = true then ((laws_eqIntS.f k bt162.2.1 x9).bind fun t170 => (if t170 = true then (laws_FnExactStabilize.j2 k bt149.2 bt151.2 bt151.1 (bt162.2.2 != x10)) else (laws_FnExactStabilize.j2 k bt149.2 bt151.2 bt151.1 true))) else (laws_FnExactStabilize.j2 k bt149.2 bt151.2 bt151.1 true)))))) else (none))))))))
def laws_FnExactStabilize.j2 : Nat → List Int → List Int → Int → Bool → Option (Bool)
  | 0, _, _, _, _ => none
  | k + 1, x13, x14, x17, x145 => if x145 = true then (none) else ((laws_heldIntS.f k x13 1).bind fun t171 => (if t171 < 0 then (none) else ((laws_heldIntS.f k x14 t171).bind fun t172 => (if t172 < 0 then (none) else (if t172 = x17 then (some true) else (none))))))
end
def laws_FnExactStabilize.f (k : Nat) (a0_0 : Int) (l0_1 : List (S96)) (l1 : List Int) (a2 : Int) : Option (Bool) := if (l1.length : Int) > 1048576 then (some true) else ((laws_szGraph.f a0_0 l0_1 1048576).bind fun t102 => (if t102 < 0 then (some true) else ((laws_toGraph.f k a0_0 l0_1).bind fun bt103 => ((laws_toIntS.f k l1).bind fun t107 => ((spec_Stabilize.f k bt103.1 bt103.2 t107 a2).bind fun bt110 => ((laws_toGraph.f k a0_0 l0_1).bind fun bt117 => ((laws_toIntS.f k l1).bind fun t122 => ((impl_Stabilize.f k bt117.1 bt117.2 t122 a2).bind fun bt125 => ((laws_eqIntS.f k bt125.1 bt110.1).bind fun t132 => (if t132 = true then ((laws_eqIntS.f k bt125.2.1 bt110.2.1).bind fun t133 => (if t133 = true then (laws_FnExactStabilize.j0 k l1 a2 bt110.1 bt110.2.1 bt110.2.2 t122 bt125.1 bt125.2.1 bt125.2.2 (bt125.2.2 != bt110.2.2) a0_0 l0_1 bt117.1 bt117.2) else (laws_FnExactStabilize.j0 k l1 a2 bt110.1 bt110.2.1 bt110.2.2 t122 bt125.1 bt125.2.1 bt125.2.2 true a0_0 l0_1 bt117.1 bt117.2))) else (laws_FnExactStabilize.j0 k l1 a2 bt110.1 bt110.2.1 bt110.2.2 t122 bt125.1 bt125.2.1 bt125.2.2 true a0_0 l0_1 bt117.1 bt117.2)))))))))))
theorem laws_FnExactStabilize.mono_l : ∀ k, (∀ y0 y1 y2 y3 y4 y5 y6 y7 y8 y9 y10 y11 y12 y13, LeO (laws_FnExactStabilize.j0 k y0 y1 y2 y3 y4 y5 y6 y7 y8 y9 y10 y11 y12 y13) (laws_FnExactStabilize.j0 (k + 1) y0 y1 y2 y3 y4 y5 y6 y7 y8 y9 y10 y11 y12 y13)) ∧ (∀ y0 y1 y2 y3 y4 y5 y6 y7 y8 y9, LeO (laws_FnExactStabilize.j1 k y0 y1 y2 y3 y4 y5 y6 y7 y8 y9) (laws_FnExactStabilize.j1 (k + 1) y0 y1 y2 y3 y4 y5 y6 y7 y8 y9)) ∧ (∀ y0 y1 y2 y3, LeO (laws_FnExactStabilize.j2 k y0 y1 y2 y3) (laws_FnExactStabilize.j2 (k + 1) y0 y1 y2 y3))
  | 0 => ⟨fun _ _ _ _ _ _ _ _ _ _ _ _ _ _ r h => by simp [laws_FnExactStabilize.j0] at h, fun _ _ _ _ _ _ _ _ _ _ r h => by simp [laws_FnExactStabilize.j1] at h, fun _ _ _ _ r h => by simp [laws_FnExactStabilize.j2] at h⟩
  | k + 1 => by
    obtain ⟨ih0, ih1, ih2⟩ := laws_FnExactStabilize.mono_l k
    refine ⟨?_, ?_, ?_⟩
    · intro y0 y1 y2 y3 y4 y5 y6 y7 y8 y9 y10 y11 y12 y13
      unfold laws_FnExactStabilize.j0
      repeat' first
      | (with_reducible exact ih0 _ _ _ _ _ _ _ _ _ _ _ _ _ _)
      | (with_reducible exact ih1 _ _ _ _ _ _ _ _ _ _)
      | (with_reducible exact ih2 _ _ _ _)
      | (with_reducible exact impl_Stabilize.mono _ _ _ _ _)
      | (with_reducible exact laws_eqGraph.mono _ _ _ _ _)
      | (with_reducible exact laws_eqIntS.mono _ _ _)
      | (with_reducible exact laws_heldIntS.mono _ _ _)
      | (with_reducible exact laws_markGraph.mono _ _ _ _)
      | (with_reducible exact laws_markIntS.mono _ _ _)
      | (with_reducible exact laws_toGraph.mono _ _ _)
      | (with_reducible exact laws_toIntS.mono _ _)
      | (with_reducible exact spec_Stabilize.mono _ _ _ _ _)
      | (with_reducible exact LeO.refl _)
      | (with_reducible exact LeO.none _)
      | (with_reducible refine LeO.ite ?_ ?_)
      | (with_reducible refine LeO.bind ?_ (fun _ => ?_))
      | exact ih0 _ _ _ _ _ _ _ _ _ _ _ _ _ _
      | exact ih1 _ _ _ _ _ _ _ _ _ _
      | exact ih2 _ _ _ _
      | exact impl_Stabilize.mono _ _ _ _ _
      | exact laws_eqGraph.mono _ _ _ _ _
      | exact laws_eqIntS.mono _ _ _
      | exact laws_heldIntS.mono _ _ _
      | exact laws_markGraph.mono _ _ _ _
      | exact laws_markIntS.mono _ _ _
      | exact laws_toGraph.mono _ _ _
      | exact laws_toIntS.mono _ _
      | exact spec_Stabilize.mono _ _ _ _ _
      | exact LeO.none _
      | refine LeO.ite ?_ ?_
      | refine LeO.bind ?_ (fun _ => ?_)
    · intro y0 y1 y2 y3 y4 y5 y6 y7 y8 y9
      unfold laws_FnExactStabilize.j1
      repeat' first
      | (with_reducible exact ih0 _ _ _ _ _ _ _ _ _ _ _ _ _ _)
      | (with_reducible exact ih1 _ _ _ _ _ _ _ _ _ _)
      | (with_reducible exact ih2 _ _ _ _)
      | (with_reducible exact impl_Stabilize.mono _ _ _ _ _)
      | (with_reducible exact laws_eqGraph.mono _ _ _ _ _)
      | (with_reducible exact laws_eqIntS.mono _ _ _)
      | (with_reducible exact laws_heldIntS.mono _ _ _)
      | (with_reducible exact laws_markGraph.mono _ _ _ _)
      | (with_reducible exact laws_markIntS.mono _ _ _)
      | (with_reducible exact laws_toGraph.mono _ _ _)
      | (with_reducible exact laws_toIntS.mono _ _)
      | (with_reducible exact spec_Stabilize.mono _ _ _ _ _)
      | (with_reducible exact LeO.refl _)
      | (with_reducible exact LeO.none _)
      | (with_reducible refine LeO.ite ?_ ?_)
      | (with_reducible refine LeO.bind ?_ (fun _ => ?_))
      | exact ih0 _ _ _ _ _ _ _ _ _ _ _ _ _ _
      | exact ih1 _ _ _ _ _ _ _ _ _ _
      | exact ih2 _ _ _ _
      | exact impl_Stabilize.mono _ _ _ _ _
      | exact laws_eqGraph.mono _ _ _ _ _
      | exact laws_eqIntS.mono _ _ _
      | exact laws_heldIntS.mono _ _ _
      | exact laws_markGraph.mono _ _ _ _
      | exact laws_markIntS.mono _ _ _
      | exact laws_toGraph.mono _ _ _
      | exact laws_toIntS.mono _ _
      | exact spec_Stabilize.mono _ _ _ _ _
      | exact LeO.none _
      | refine LeO.ite ?_ ?_
      | refine LeO.bind ?_ (fun _ => ?_)
    · intro y0 y1 y2 y3
      unfold laws_FnExactStabilize.j2
      repeat' first
      | (with_reducible exact ih0 _ _ _ _ _ _ _ _ _ _ _ _ _ _)
      | (with_reducible exact ih1 _ _ _ _ _ _ _ _ _ _)
      | (with_reducible exact ih2 _ _ _ _)
      | (with_reducible exact impl_Stabilize.mono _ _ _ _ _)
      | (with_reducible exact laws_eqGraph.mono _ _ _ _ _)
      | (with_reducible exact laws_eqIntS.mono _ _ _)
      | (with_reducible exact laws_heldIntS.mono _ _ _)
      | (with_reducible exact laws_markGraph.mono _ _ _ _)
      | (with_reducible exact laws_markIntS.mono _ _ _)
      | (with_reducible exact laws_toGraph.mono _ _ _)
      | (with_reducible exact laws_toIntS.mono _ _)
      | (with_reducible exact spec_Stabilize.mono _ _ _ _ _)
      | (with_reducible exact LeO.refl _)
      | (with_reducible exact LeO.none _)
      | (with_reducible refine LeO.ite ?_ ?_)
      | (with_reducible refine LeO.bind ?_ (fun _ => ?_))
      | exact ih0 _ _ _ _ _ _ _ _ _ _ _ _ _ _
      | exact ih1 _ _ _ _ _ _ _ _ _ _
      | exact ih2 _ _ _ _
      | exact impl_Stabilize.mono _ _ _ _ _
      | exact laws_eqGraph.mono _ _ _ _ _
      | exact laws_eqIntS.mono _ _ _
      | exact laws_heldIntS.mono _ _ _
      | exact laws_markGraph.mono _ _ _ _
      | exact laws_markIntS.mono _ _ _
      | exact laws_toGraph.mono _ _ _
      | exact laws_toIntS.mono _ _
      | exact spec_Stabilize.mono _ _ _ _ _
      | exact LeO.none _
      | refine LeO.ite ?_ ?_
      | refine LeO.bind ?_ (fun _ => ?_)
theorem laws_FnExactStabilize.mono : ∀ a0 a1 a2 a3 k, LeO (laws_FnExactStabilize.f k a0 a1 a2 a3) (laws_FnExactStabilize.f (k + 1) a0 a1 a2 a3) := by
  intro a0 a1 a2 a3 k; obtain ⟨ih0, ih1, ih2⟩ := laws_FnExactStabilize.mono_l k; unfold laws_FnExactStabilize.f
  repeat' first
      | (with_reducible exact ih0 _ _ _ _ _ _ _ _ _ _ _ _ _ _)
      | (with_reducible exact ih1 _ _ _ _ _ _ _ _ _ _)
      | (with_reducible exact ih2 _ _ _ _)
      | (with_reducible exact impl_Stabilize.mono _ _ _ _ _)
      | (with_reducible exact laws_eqGraph.mono _ _ _ _ _)
      | (with_reducible exact laws_eqIntS.mono _ _ _)
      | (with_reducible exact laws_heldIntS.mono _ _ _)
      | (with_reducible exact laws_markGraph.mono _ _ _ _)
      | (with_reducible exact laws_markIntS.mono _ _ _)
      | (with_reducible exact laws_toGraph.mono _ _ _)
      | (with_reducible exact laws_toIntS.mono _ _)
      | (with_reducible exact spec_Stabilize.mono _ _ _ _ _)
      | (with_reducible exact LeO.refl _)
      | (with_reducible exact LeO.none _)
      | (with_reducible refine LeO.ite ?_ ?_)
      | (with_reducible refine LeO.bind ?_ (fun _ => ?_))
      | exact ih0 _ _ _ _ _ _ _ _ _ _ _ _ _ _
      | exact ih1 _ _ _ _ _ _ _ _ _ _
      | exact ih2 _ _ _ _
      | exact impl_Stabilize.mono _ _ _ _ _
      | exact laws_eqGraph.mono _ _ _ _ _
      | exact laws_eqIntS.mono _ _ _
      | exact laws_heldIntS.mono _ _ _
      | exact laws_markGraph.mono _ _ _ _
      | exact laws_markIntS.mono _ _ _
      | exact laws_toGraph.mono _ _ _
      | exact laws_toIntS.mono _ _
      | exact spec_Stabilize.mono _ _ _ _ _
      | exact LeO.none _
      | refine LeO.ite ?_ ?_
      | refine LeO.bind ?_ (fun _ => ?_)
set_option maxHeartbeats 8000000 in
set_option maxRecDepth 100000 in
theorem laws_FnExactStabilize.calls (k : Nat) (a0_0 : Int) (A0_1 : Option Addr) (c0_1 : Nat) (l0_1 : List (S96)) (A1 : Option Addr) (c1 : Nat) (l1 : List Int) (a2 : Int) (r : Bool) (w : World) (hr0_1 : Kd.C k96 w A0_1 l0_1.length l0_1) (hc0_1 : l0_1.length ≤ c0_1) (hr1 : Kd.C (Kd.int .i64) w A1 l1.length l1) (hc1 : l1.length ≤ c1) (h : laws_FnExactStabilize.f k a0_0 l0_1 l1 a2 = some r) :
    Calls Try.prog 17 #[.agg #[.int .i64 a0_0, .slice A0_1 l0_1.length c0_1], .slice A1 l1.length c1, .int .i64 a2] w fun e w' => e = .returned (.bool r) ∧ Below w.heap.size w w' := by
  have hu33 := Try.underlying33; have hu38 := Try.underlying38; have HR0_1 := Aside0.mk hr0_1; have HC0_1 := Aside0.mk hc0_1; clear hr0_1 hc0_1; have HR1 := Aside0.mk hr1; have HC1 := Aside0.mk hc1; clear hr1 hc1; have HB := Aside0.mk (Below.refl w.heap.size w); have H : (if (l1.length : Int) > 1048576 then (some true) else ((laws_szGraph.f a0_0 l0_1 1048576).bind fun t102 => (if t102 < 0 then (some true) else ((laws_toGraph.f k a0_0 l0_1).bind fun bt103 => ((laws_toIntS.f k l1).bind fun t107 => ((spec_Stabilize.f k bt103.1 bt103.2 t107 a2).bind fun bt110 => ((laws_toGraph.f k a0_0 l0_1).bind fun bt117 => ((laws_toIntS.f k l1).bind fun t122 => ((impl_Stabilize.f k bt117.1 bt117.2 t122 a2).bind fun bt125 => ((laws_eqIntS.f k bt125.1 bt110.1).bind fun t132 => (if t132 = true then ((laws_eqIntS.f k bt125.2.1 bt110.2.1).bind fun t133 => (if t133 = true then (laws_FnExactStabilize.j0 k l1 a2 bt110.1 bt110.2.1 bt110.2.2 t122 bt125.1 bt125.2.1 bt125.2.2 (bt125.2.2 != bt110.2.2) a0_0 l0_1 bt117.1 bt117.2) else (laws_FnExactStabilize.j0 k l1 a2 bt110.1 bt110.2.1 bt110.2.2 t122 bt125.1 bt125.2.1 bt125.2.2 true a0_0 l0_1 bt117.1 bt117.2))) else (laws_FnExactStabilize.j0 k l1 a2 bt110.1 bt110.2.1 bt110.2.2 t122 bt125.1 bt125.2.1 bt125.2.2 true a0_0 l0_1 bt117.1 bt117.2)))))))))))) = some r := h; clear h; by_cases c4 : (l1.length : Int) > 1048576
  · rw [if_pos c4] at H; have c4b0 : decide (1048576 < (l1.length : Int)) = true := decide_eq_true c4; have c4b1 : decide (1048576 < l1.length) = true := decide_eq_true (by omega); clear c4; obtain rfl := Option.some.inj H; go_enter Try.func17, Try.ntmps17; (go_wp2_with (first | ((with_reducible refine gate_dst (N := 3) rfl ?_); refine box_event ?hg (N := 3) ?hd (cs := #[.int .i64 a0_0, .slice A0_1 l0_1.length c0_1]) (t := 33) ?hr ?_; (case hd => rfl); (case hg => rfl); (case hr => first | (go_simp; done) | (go_simp; rfl)); intro gb101 hg w5 hbox hb; have n0_ := Aside0.mk (below_step zz1 hb); have n1_ := Aside0.mk (hbox); have n2_ := Aside0.mk ((zz7 : w.heap.size ≤ gb101)); have n3_ := Aside0.mk ((zz7 : w.heap.size ≤ gb101)); clear HB; have HB := n0_; have BK101 := n1_; have GW101 := n2_; have GE101 := n3_; clear n0_ n1_ n2_ n3_; clear hb hbox hg))); go_ret; exact ⟨by first | rfl | (simp [errW_none, errW_some] <;> rfl) | (simp [*, errW_none, errW_some] <;> rfl), by repeat (first | (with_reducible first | exact HB.out | apply below_alloc | apply pw_below_drewN | apply below_drew1 | refine below_set ?_ GE101.out) | exact HB.out)⟩
  rw [if_neg c4] at H; have c4b0 : decide (1048576 < (l1.length : Int)) = false := decide_eq_false c4; have c4b1 : decide (1048576 < l1.length) = false := decide_eq_false (by omega); clear c4; replace H := Option.bind_eq_some_iff.mp H; obtain ⟨t102, A60, H⟩ := H; replace H : (if t102 < 0 then (some true) else ((laws_toGraph.f k a0_0 l0_1).bind fun bt103 => ((laws_toIntS.f k l1).bind fun t107 => ((spec_Stabilize.f k bt103.1 bt103.2 t107 a2).bind fun bt110 => ((laws_toGraph.f k a0_0 l0_1).bind fun bt117 => ((laws_toIntS.f k l1).bind fun t122 => ((impl_Stabilize.f k bt117.1 bt117.2 t122 a2).bind fun bt125 => ((laws_eqIntS.f k bt125.1 bt110.1).bind fun t132 => (if t132 = true then ((laws_eqIntS.f k bt125.2.1 bt110.2.1).bind fun t133 => (if t133 = true then (laws_FnExactStabilize.j0 k l1 a2 bt110.1 bt110.2.1 bt110.2.2 t122 bt125.1 bt125.2.1 bt125.2.2 (bt125.2.2 != bt110.2.2) a0_0 l0_1 bt117.1 bt117.2) else (laws_FnExactStabilize.j0 k l1 a2 bt110.1 bt110.2.1 bt110.2.2 t122 bt125.1 bt125.2.1 bt125.2.2 true a0_0 l0_1 bt117.1 bt117.2))) else (laws_FnExactStabilize.j0 k l1 a2 bt110.1 bt110.2.1 bt110.2.2 t122 bt125.1 bt125.2.1 bt125.2.2 true a0_0 l0_1 bt117.1 bt117.2)))))))))) = some r := H; have A6 := Aside0.mk A60; clear A60; by_cases c7 : t102 < 0
  · rw [if_pos c7] at H; have c7b0 : decide (t102 < 0) = true := decide_eq_true c7; clear c7; obtain rfl := Option.some.inj H; go_enter Try.func17, Try.ntmps17; (go_wp2_with (first | ((with_reducible refine gate_dst (N := 3) rfl ?_); refine box_event ?hg (N := 3) ?hd (cs := #[.int .i64 a0_0, .slice A0_1 l0_1.length c0_1]) (t := 33) ?hr ?_; (case hd => rfl); (case hg => rfl); (case hr => first | (go_simp; done) | (go_simp; rfl)); intro gb101 hg w8 hbox hb; have n0_ := Aside0.mk (below_step zz1 hb); have n1_ := Aside0.mk (hbox); have n2_ := Aside0.mk ((zz7 : w.heap.size ≤ gb101)); have n3_ := Aside0.mk ((zz7 : w.heap.size ≤ gb101)); clear HB; have HB := n0_; have BK101 := n1_; have GW101 := n2_; have GE101 := n3_; clear n0_ n1_ n2_ n3_; clear hb hbox hg; have hcz9_0 : w8.cell? ⟨gb101, 0, none⟩ = some (.int .i64 a0_0) := (blk_cell BK101.out 0).trans rfl; have hcz9_1 : w8.cell? ⟨gb101, 1, none⟩ = some (.slice A0_1 l0_1.length c0_1) := (blk_cell BK101.out 1).trans rfl; have hfz9_0 := blk_frozen BK101.out 0; have hfz9_1 := blk_frozen BK101.out 1) | ((with_reducible refine gate_callee (f := 41) rfl ?_); refine goesL_ (some 27) rfl rfl Try.func41 (by kernel_rfl) rfl #[.agg #[.int .i64 a0_0, .slice A0_1 l0_1.length c0_1], .int .i64 1048576] rfl zz3 ?_; (with_reducible refine (laws_szGraph.calls a0_0 _ _ l0_1 1048576 t102 _ ?side1 ?side2 A6.out).mono ?_); (case side1 => repeat (first | exact (Kd.C_below HR0_1.out HB.out) | (with_reducible refine Kd.C_alloc ?_ _) | (with_reducible refine Kd.C_drewN ?_ _) | (with_reducible refine Kd.C_drew ?_))); (case side2 => exact HC0_1.out); rintro e w10 ⟨rfl, hb⟩; refine ⟨_, rfl, ?_⟩; have n0_ := Aside0.mk (blk_below (g := gb101) (o := .cells #[.int .i64 a0_0, .slice A0_1 l0_1.length c0_1] 33 (0, 0)) zz2 hb); have n1_ := Aside0.mk (below_step zz0 hb); clear BK101; clear HB; have BK101 := n0_; have HB := n1_; clear n0_ n1_; (try clear hb); (try clear hb2); (try clear hk); (try clear hi)))); go_ret; exact ⟨by first | rfl | (simp [errW_none, errW_some] <;> rfl) | (simp [*, errW_none, errW_some] <;> rfl), by repeat (first | (with_reducible first | exact HB.out | apply below_alloc | apply pw_below_drewN | apply below_drew1 | refine below_set ?_ GE101.out) | exact HB.out)⟩
  rw [if_neg c7] at H; have c7b0 : decide (t102 < 0) = false := decide_eq_false c7; clear c7; replace H := Option.bind_eq_some_iff.mp H; obtain ⟨⟨t103, t104⟩, A110, H⟩ := H; replace H : ((laws_toIntS.f k l1).bind fun t107 => ((spec_Stabilize.f k t103 t104 t107 a2).bind fun bt110 => ((laws_toGraph.f k a0_0 l0_1).bind fun bt117 => ((laws_toIntS.f k l1).bind fun t122 => ((impl_Stabilize.f k bt117.1 bt117.2 t122 a2).bind fun bt125 => ((laws_eqIntS.f k bt125.1 bt110.1).bind fun t132 => (if t132 = true then ((laws_eqIntS.f k bt125.2.1 bt110.2.1).bind fun t133 => (if t133 = true then (laws_FnExactStabilize.j0 k l1 a2 bt110.1 bt110.2.1 bt110.2.2 t122 bt125.1 bt125.2.1 bt125.2.2 (bt125.2.2 != bt110.2.2) a0_0 l0_1 bt117.1 bt117.2) else (laws_FnExactStabilize.j0 k l1 a2 bt110.1 bt110.2.1 bt110.2.2 t122 bt125.1 bt125.2.1 bt125.2.2 true a0_0 l0_1 bt117.1 bt117.2))) else (laws_FnExactStabilize.j0 k l1 a2 bt110.1 bt110.2.1 bt110.2.2 t122 bt125.1 bt125.2.1 bt125.2.2 true a0_0 l0_1 bt117.1 bt117.2)))))))) = some r := H; have A11 := Aside0.mk A110; clear A110; replace H := Option.bind_eq_some_iff.mp H; obtain ⟨t107, A120, H⟩ := H; replace H : ((spec_Stabilize.f k t103 t104 t107 a2).bind fun bt110 => ((laws_toGraph.f k a0_0 l0_1).bind fun bt117 => ((laws_toIntS.f k l1).bind fun t122 => ((impl_Stabilize.f k bt117.1 bt117.2 t122 a2).bind fun bt125 => ((laws_eqIntS.f k bt125.1 bt110.1).bind fun t132 => (if t132 = true then ((laws_eqIntS.f k bt125.2.1 bt110.2.1).bind fun t133 => (if t133 = true then (laws_FnExactStabilize.j0 k l1 a2 bt110.1 bt110.2.1 bt110.2.2 t122 bt125.1 bt125.2.1 bt125.2.2 (bt125.2.2 != bt110.2.2) a0_0 l0_1 bt117.1 bt117.2) else (laws_FnExactStabilize.j0 k l1 a2 bt110.1 bt110.2.1 bt110.2.2 t122 bt125.1 bt125.2.1 bt125.2.2 true a0_0 l0_1 bt117.1 bt117.2))) else (laws_FnExactStabilize.j0 k l1 a2 bt110.1 bt110.2.1 bt110.2.2 t122 bt125.1 bt125.2.1 bt125.2.2 true a0_0 l0_1 bt117.1 bt117.2))))))) = some r := H; have A12 := Aside0.mk A120; clear A120; replace H := Option.bind_eq_some_iff.mp H; obtain ⟨⟨t110, t113, t116⟩, A130, H⟩ := H; replace H : ((laws_toGraph.f k a0_0 l0_1).bind fun bt117 => ((laws_toIntS.f k l1).bind fun t122 => ((impl_Stabilize.f k bt117.1 bt117.2 t122 a2).bind fun bt125 => ((laws_eqIntS.f k bt125.1 t110).bind fun t132 => (if t132 = true then ((laws_eqIntS.f k bt125.2.1 t113).bind fun t133 => (if t133 = true then (laws_FnExactStabilize.j0 k l1 a2 t110 t113 t116 t122 bt125.1 bt125.2.1 bt125.2.2 (bt125.2.2 != t116) a0_0 l0_1 bt117.1 bt117.2) else (laws_FnExactStabilize.j0 k l1 a2 t110 t113 t116 t122 bt125.1 bt125.2.1 bt125.2.2 true a0_0 l0_1 bt117.1 bt117.2))) else (laws_FnExactStabilize.j0 k l1 a2 t110 t113 t116 t122 bt125.1 bt125.2.1 bt125.2.2 true a0_0 l0_1 bt117.1 bt117.2)))))) = some r := H; have A13 := Aside0.mk A130; clear A130; replace H := Option.bind_eq_some_iff.mp H; obtain ⟨⟨t117, t118⟩, A140, H⟩ := H; replace H : ((laws_toIntS.f k l1).bind fun t122 => ((impl_Stabilize.f k t117 t118 t122 a2).bind fun bt125 => ((laws_eqIntS.f k bt125.1 t110).bind fun t132 => (if t132 = true then ((laws_eqIntS.f k bt125.2.1 t113).bind fun t133 => (if t133 = true then (laws_FnExactStabilize.j0 k l1 a2 t110 t113 t116 t122 bt125.1 bt125.2.1 bt125.2.2 (bt125.2.2 != t116) a0_0 l0_1 t117 t118) else (laws_FnExactStabilize.j0 k l1 a2 t110 t113 t116 t122 bt125.1 bt125.2.1 bt125.2.2 true a0_0 l0_1 t117 t118))) else (laws_FnExactStabilize.j0 k l1 a2 t110 t113 t116 t122 bt125.1 bt125.2.1 bt125.2.2 true a0_0 l0_1 t117 t118))))) = some r := H; have A14 := Aside0.mk A140; clear A140; replace H := Option.bind_eq_some_iff.mp H; obtain ⟨t122, A150, H⟩ := H; replace H : ((impl_Stabilize.f k t117 t118 t122 a2).bind fun bt125 => ((laws_eqIntS.f k bt125.1 t110).bind fun t132 => (if t132 = true then ((laws_eqIntS.f k bt125.2.1 t113).bind fun t133 => (if t133 = true then (laws_FnExactStabilize.j0 k l1 a2 t110 t113 t116 t122 bt125.1 bt125.2.1 bt125.2.2 (bt125.2.2 != t116) a0_0 l0_1 t117 t118) else (laws_FnExactStabilize.j0 k l1 a2 t110 t113 t116 t122 bt125.1 bt125.2.1 bt125.2.2 true a0_0 l0_1 t117 t118))) else (laws_FnExactStabilize.j0 k l1 a2 t110 t113 t116 t122 bt125.1 bt125.2.1 bt125.2.2 true a0_0 l0_1 t117 t118)))) = some r := H; have A15 := Aside0.mk A150; clear A150; replace H := Option.bind_eq_some_iff.mp H; obtain ⟨⟨t125, t128, t131⟩, A160, H⟩ := H; replace H : ((laws_eqIntS.f k t125 t110).bind fun t132 => (if t132 = true then ((laws_eqIntS.f k t128 t113).bind fun t133 => (if t133 = true then (laws_FnExactStabilize.j0 k l1 a2 t110 t113 t116 t122 t125 t128 t131 (t131 != t116) a0_0 l0_1 t117 t118) else (laws_FnExactStabilize.j0 k l1 a2 t110 t113 t116 t122 t125 t128 t131 true a0_0 l0_1 t117 t118))) else (laws_FnExactStabilize.j0 k l1 a2 t110 t113 t116 t122 t125 t128 t131 true a0_0 l0_1 t117 t118))) = some r := H; have A16 := Aside0.mk A160; clear A160; have HC17 := Aside0.mk H; clear H; go_enter Try.func17, Try.ntmps17; (go_upto_region 11 with (first | ((with_reducible refine gate_dst (N := 3) rfl ?_); refine box_event ?hg (N := 3) ?hd (cs := #[.int .i64 a0_0, .slice A0_1 l0_1.length c0_1]) (t := 33) ?hr ?_; (case hd => rfl); (case hg => rfl); (case hr => first | (go_simp; done) | (go_simp; rfl)); intro gb101 hg w18 hbox hb; have n0_ := Aside0.mk (below_step zz1 hb); have n1_ := Aside0.mk (hbox); have n2_ := Aside0.mk ((zz7 : w.heap.size ≤ gb101)); have n3_ := Aside0.mk ((zz7 : w.heap.size ≤ gb101)); clear HB; have HB := n0_; have BK101 := n1_; have GW101 := n2_; have GE101 := n3_; clear n0_ n1_ n2_ n3_; clear hb hbox hg; have hcz19_0 : w18.cell? ⟨gb101, 0, none⟩ = some (.int .i64 a0_0) := (blk_cell BK101.out 0).trans rfl; have hcz19_1 : w18.cell? ⟨gb101, 1, none⟩ = some (.slice A0_1 l0_1.length c0_1) := (blk_cell BK101.out 1).trans rfl; have hfz19_0 := blk_frozen BK101.out 0; have hfz19_1 := blk_frozen BK101.out 1) | ((with_reducible refine gate_callee (f := 41) rfl ?_); refine goesL_ (some 27) rfl rfl Try.func41 (by kernel_rfl) rfl #[.agg #[.int .i64 a0_0, .slice A0_1 l0_1.length c0_1], .int .i64 1048576] rfl zz3 ?_; (with_reducible refine (laws_szGraph.calls a0_0 _ _ l0_1 1048576 t102 _ ?side1 ?side2 A6.out).mono ?_); (case side1 => repeat (first | exact (Kd.C_below HR0_1.out HB.out) | (with_reducible refine Kd.C_alloc ?_ _) | (with_reducible refine Kd.C_drewN ?_ _) | (with_reducible refine Kd.C_drew ?_))); (case side2 => exact HC0_1.out); rintro e w20 ⟨rfl, hb⟩; refine ⟨_, rfl, ?_⟩; have n0_ := Aside0.mk (blk_below (g := gb101) (o := .cells #[.int .i64 a0_0, .slice A0_1 l0_1.length c0_1] 33 (0, 0)) zz2 hb); have n1_ := Aside0.mk (below_step zz0 hb); clear BK101; clear HB; have BK101 := n0_; have HB := n1_; clear n0_ n1_; (try clear hb); (try clear hb2); (try clear hk); (try clear hi); have hcz21_0 : w20.cell? ⟨gb101, 0, none⟩ = some (.int .i64 a0_0) := (blk_cell BK101.out 0).trans rfl; have hcz21_1 : w20.cell? ⟨gb101, 1, none⟩ = some (.slice A0_1 l0_1.length c0_1) := (blk_cell BK101.out 1).trans rfl; have hfz21_0 := blk_frozen BK101.out 0; have hfz21_1 := blk_frozen BK101.out 1) | ((with_reducible refine gate_callee (f := 43) rfl ?_); refine goesL_ (some 32) rfl rfl Try.func43 (by kernel_rfl) rfl #[.agg #[.int .i64 a0_0, .slice A0_1 l0_1.length c0_1]] rfl zz3 ?_; (with_reducible refine (laws_toGraph.calls k a0_0 _ _ l0_1 t103 t104 _ ?side1 ?side2 A11.out).mono ?_); (case side1 => repeat (first | exact (Kd.C_below HR0_1.out HB.out) | (with_reducible refine Kd.C_alloc ?_ _) | (with_reducible refine Kd.C_drewN ?_ _) | (with_reducible refine Kd.C_drew ?_))); (case side2 => exact HC0_1.out); rintro e w22 ⟨v105, rfl, ho0, hb⟩; refine ⟨_, rfl, ?_⟩; have n0_ := Aside0.mk (Kd.R_lower ho0 (below_size zz0)); have n1_ := Aside0.mk (blk_below (g := gb101) (o := .cells #[.int .i64 a0_0, .slice A0_1 l0_1.length c0_1] 33 (0, 0)) zz2 hb); have n2_ := Aside0.mk (below_step zz0 hb); clear BK101; clear HB; have HO106 := n0_; have BK101 := n1_; have HB := n2_; clear n0_ n1_ n2_; (try clear hb); (try clear hb2); (try clear hk); (try clear hi); (try clear ho0)) | ((with_reducible refine gate_callee (f := 44) rfl ?_); refine goesL_ (some 34) rfl rfl Try.func44 (by kernel_rfl) rfl #[.slice A1 l1.length c1] rfl zz3 ?_; (with_reducible refine (laws_toIntS.calls k _ _ l1 t107 _ ?side1 ?side2 A12.out).mono ?_); (case side1 => repeat (first | exact (Kd.C_below HR1.out HB.out) | (with_reducible refine Kd.C_alloc ?_ _) | (with_reducible refine Kd.C_drewN ?_ _) | (with_reducible refine Kd.C_drew ?_))); (case side2 => exact HC1.out); rintro e w23 ⟨v108, rfl, ho0, hb⟩; refine ⟨_, rfl, ?_⟩; have n0_ := Aside0.mk (Kd.R_below zz27 hb); have n1_ := Aside0.mk (Kd.R_lower ho0 (below_size zz0)); have n2_ := Aside0.mk (blk_below (g := gb101) (o := .cells #[.int .i64 a0_0, .slice A0_1 l0_1.length c0_1] 33 (0, 0)) zz2 hb); have n3_ := Aside0.mk (below_step zz0 hb); clear HO106; clear BK101; clear HB; have HO106 := n0_; have HO109 := n1_; have BK101 := n2_; have HB := n3_; clear n0_ n1_ n2_ n3_; (try clear hb); (try clear hb2); (try clear hk); (try clear hi); (try clear ho0); obtain ⟨Ao24, co24, eo24⟩ := Kd.R_slice HO106.out; subst eo24; obtain ⟨Ao25, co25, eo25⟩ := Kd.R_slice HO109.out; subst eo25) | ((with_reducible refine gate_callee (f := 72) rfl ?_); refine goesL_ (some 36) rfl rfl Try.func72 (by kernel_rfl) rfl #[.agg #[.int .i64 t103, .slice Ao24 t104.length co24], .slice Ao25 t107.length co25, .int .i64 a2] rfl zz3 ?_; (with_reducible refine (spec_Stabilize.calls k t103 _ _ t104 _ _ t107 a2 t110 t113 t116 _ ?side1 ?side2 ?side3 ?side4 A13.out).mono ?_); (case side1 => repeat (first | exact (Kd.R_reads' HO106.out).2.2 | (with_reducible refine Kd.C_alloc ?_ _) | (with_reducible refine Kd.C_drewN ?_ _) | (with_reducible refine Kd.C_drew ?_))); (case side2 => exact (Kd.R_reads' HO106.out).2.1); (case side3 => repeat (first | exact (Kd.R_reads' HO109.out).2.2 | (with_reducible refine Kd.C_alloc ?_ _) | (with_reducible refine Kd.C_drewN ?_ _) | (with_reducible refine Kd.C_drew ?_))); (case side4 => exact (Kd.R_reads' HO109.out).2.1); rintro e w26 ⟨v111, v114, rfl, ho0, ho1, hb⟩; refine ⟨_, rfl, ?_⟩; have n0_ := Aside0.mk (Kd.R_below zz27 hb); have n1_ := Aside0.mk (Kd.R_mono (Kd.R_told (Kd.R_told (Kd.R_old zz23 hb) (Kd.R_base ho0)) (Kd.R_base ho1)) (fun _ h_ => h_.1)); have n2_ := Aside0.mk (Kd.R_lower (Kd.R_new' ho0 (Kd.R_lt zz23)) (below_size zz0)); have n3_ := Aside0.mk (Kd.R_lower (Kd.R_new' ho1 (Kd.R_lt zz23)) (below_size zz0)); have n4_ := Aside0.mk (blk_below (g := gb101) (o := .cells #[.int .i64 a0_0, .slice A0_1 l0_1.length c0_1] 33 (0, 0)) zz2 hb); have n5_ := Aside0.mk (below_step zz0 hb); clear HO106; clear HO109; clear BK101; clear HB; have HO106 := n0_; have HO109 := n1_; have HO112 := n2_; have HO115 := n3_; have BK101 := n4_; have HB := n5_; clear n0_ n1_ n2_ n3_ n4_ n5_; (try clear hb); (try clear hb2); (try clear hk); (try clear hi); (try clear ho0); (try clear ho1); have hcz27_0 : w26.cell? ⟨gb101, 0, none⟩ = some (.int .i64 a0_0) := (blk_cell BK101.out 0).trans rfl; have hcz27_1 : w26.cell? ⟨gb101, 1, none⟩ = some (.slice A0_1 l0_1.length c0_1) := (blk_cell BK101.out 1).trans rfl; have hfz27_0 := blk_frozen BK101.out 0; have hfz27_1 := blk_frozen BK101.out 1) | ((with_reducible refine gate_callee (f := 43) rfl ?_); refine goesL_ (some 41) rfl rfl Try.func43 (by kernel_rfl) rfl #[.agg #[.int .i64 a0_0, .slice A0_1 l0_1.length c0_1]] rfl zz3 ?_; (with_reducible refine (laws_toGraph.calls k a0_0 _ _ l0_1 t117 t118 _ ?side1 ?side2 A14.out).mono ?_); (case side1 => repeat (first | exact (Kd.C_below HR0_1.out HB.out) | (with_reducible refine Kd.C_alloc ?_ _) | (with_reducible refine Kd.C_drewN ?_ _) | (with_reducible refine Kd.C_drew ?_))); (case side2 => exact HC0_1.out); rintro e w28 ⟨v119, rfl, ho0, hb⟩; refine ⟨_, rfl, ?_⟩; have n0_ := Aside0.mk (Kd.R_elder' zz27 (Kd.R_base ho0) hb); have n1_ := Aside0.mk (Kd.R_below zz23 hb); have n2_ := Aside0.mk (Kd.R_below zz32 hb); have n3_ := Aside0.mk (Kd.R_below zz33 hb); have n4_ := Aside0.mk (Kd.R_lower (Kd.R_new' ho0 (Kd.R_lt zz27)) (below_size zz0)); have n5_ := Aside0.mk (blk_below (g := gb101) (o := .cells #[.int .i64 a0_0, .slice A0_1 l0_1.length c0_1] 33 (0, 0)) zz2 hb); have n6_ := Aside0.mk (below_step zz0 hb); clear HO106; clear HO109; clear HO112; clear HO115; clear BK101; clear HB; have HO106 := n0_; have HO109 := n1_; have HO112 := n2_; have HO115 := n3_; have HO120 := n4_; have BK101 := n5_; have HB := n6_; clear n0_ n1_ n2_ n3_ n4_ n5_ n6_; (try clear hb); (try clear hb2); (try clear hk); (try clear hi); (try clear ho0)) | ((with_reducible refine gate_dst (N := 11) rfl ?_); refine box_event ?hg (N := 11) ?hd (cs := #[.int .i64 0, .slice none 0 0]) (t := 38) ?hr ?_; (case hd => rfl); (case hg => rfl); (case hr => first | (go_simp; done) | (go_simp; rfl)); intro gb121 hg w29 hbox hb; have n0_ := Aside0.mk (Kd.R_below zz27 hb); have n1_ := Aside0.mk (Kd.R_below zz23 hb); have n2_ := Aside0.mk (Kd.R_below zz32 hb); have n3_ := Aside0.mk (Kd.R_below zz33 hb); have n4_ := Aside0.mk (Kd.R_below (by (with_reducible repeat (first | apply Kd.R_alloc | apply Kd.R_drewN | apply Kd.R_drew)); exact HO120.out) hb); have n5_ := Aside0.mk (blk_below (g := gb101) (o := .cells #[.int .i64 a0_0, .slice A0_1 l0_1.length c0_1] 33 (0, 0)) zz2 hb); have n6_ := Aside0.mk (below_step zz0 hb); have n7_ := Aside0.mk (hbox); have n8_ := Aside0.mk ((zz9 : w.heap.size ≤ gb121)); have n9_ := Aside0.mk ((zz9 : w.heap.size ≤ gb121)); have n10_ := Aside0.mk ((by rw [hg]; exact Nat.ne_of_lt (blk_lt (g := gb101) (o := .cells #[.int .i64 a0_0, .slice A0_1 l0_1.length c0_1] 33 (0, 0)) zz2) : gb101 ≠ gb121)); have n11_ := Aside0.mk ((by rw [hg]; exact Nat.ne_of_gt (blk_lt (g := gb101) (o := .cells #[.int .i64 a0_0, .slice A0_1 l0_1.length c0_1] 33 (0, 0)) zz2) : gb121 ≠ gb101)); clear HO106; clear HO109; clear HO112; clear HO115; clear HO120; clear BK101; clear HB; have HO106 := n0_; have HO109 := n1_; have HO112 := n2_; have HO115 := n3_; have HO120 := n4_; have BK101 := n5_; have HB := n6_; have BK121 := n7_; have GW121 := n8_; have GE121 := n9_; have NB101_121 := n10_; have NB121_101 := n11_; clear n0_ n1_ n2_ n3_ n4_ n5_ n6_ n7_ n8_ n9_ n10_ n11_; clear hb hbox hg; have hnb30 := NB121_101.out; have hnc30 := NB101_121.out; have hcz31_0 : w29.cell? ⟨gb121, 0, none⟩ = some (.int .i64 0) := (blk_cell BK121.out 0).trans rfl; have hcz31_1 : w29.cell? ⟨gb121, 1, none⟩ = some (.slice none 0 0) := (blk_cell BK121.out 1).trans rfl; have hfz31_0 := blk_frozen BK121.out 0; have hfz31_1 := blk_frozen BK121.out 1; obtain ⟨Ao32, co32, eo32⟩ := Kd.R_slice HO120.out; subst eo32) | ((with_reducible refine gate_callee (f := 44) rfl ?_); refine goesL_ (some 43) rfl rfl Try.func44 (by kernel_rfl) rfl #[.slice A1 l1.length c1] rfl zz3 ?_; (with_reducible refine (laws_toIntS.calls k _ _ l1 t122 _ ?side1 ?side2 A15.out).mono ?_); (case side1 => exact Kd.C_below HR1.out zz8); (case side2 => exact HC1.out); rintro e w33 ⟨v123, rfl, ho0, hb⟩; refine ⟨_, rfl, ?_⟩; have n0_ := Aside0.mk (Kd.R_below (by (with_reducible repeat (first | apply Kd.R_alloc | apply Kd.R_drewN | apply Kd.R_drew)); exact (Kd.R_mono (Kd.R_far (p := ⟨gb121, 1, none⟩) (Kd.R_far (p := ⟨gb121, 0, none⟩) (Kd.R_types HO106.out BK121.out (by decide)) (fun _ hk => hk.2) (.int .i64 t117)) (fun _ hk => hk.2) (.slice Ao32 t118.length co32)) (fun _ h_ => h_.1))) hb); have n1_ := Aside0.mk (Kd.R_elder' zz37 (Kd.R_base ho0) hb); have n2_ := Aside0.mk (Kd.R_elder' zz38 (Kd.R_base ho0) hb); have n3_ := Aside0.mk (Kd.R_elder' zz39 (Kd.R_base ho0) hb); have n4_ := Aside0.mk (Kd.R_below (by (with_reducible repeat (first | apply Kd.R_alloc | apply Kd.R_drewN | apply Kd.R_drew)); exact (Kd.R_mono (Kd.R_far (p := ⟨gb121, 1, none⟩) (Kd.R_far (p := ⟨gb121, 0, none⟩) (Kd.R_types HO120.out BK121.out (by decide)) (fun _ hk => hk.2) (.int .i64 t117)) (fun _ hk => hk.2) (.slice Ao32 t118.length co32)) (fun _ h_ => h_.1))) hb); have n5_ := Aside0.mk (Kd.R_lower (Kd.R_new' (Kd.R_new' (Kd.R_new' ho0 (Kd.R_lt zz37)) (Kd.R_lt zz38)) (Kd.R_lt zz39)) (below_size zz8)); have n6_ := Aside0.mk (blk_below (g := gb101) (o := .cells #[.int .i64 a0_0, .slice A0_1 l0_1.length c0_1] 33 (0, 0)) (by (with_reducible repeat (first | refine blk_drewN ?_ _ | refine blk_drew ?_ | refine blk_alloc ?_ _)); refine blk_far ?_ NB101_121.out _; (with_reducible repeat (first | refine blk_drewN ?_ _ | refine blk_drew ?_ | refine blk_alloc ?_ _)); refine blk_far ?_ NB101_121.out _; (with_reducible repeat (first | refine blk_drewN ?_ _ | refine blk_drew ?_ | refine blk_alloc ?_ _)); exact BK101.out) hb); have n7_ := Aside0.mk (blk_below (g := gb121) (o := .cells #[.int .i64 t117, .slice Ao32 t118.length co32] 38 (0, 0)) (by (with_reducible repeat (first | refine blk_drewN ?_ _ | refine blk_drew ?_ | refine blk_alloc ?_ _)); refine blk_put (cs := #[.int .i64 t117, .slice none 0 0]) ?_ 1 _ rfl; (with_reducible repeat (first | refine blk_drewN ?_ _ | refine blk_drew ?_ | refine blk_alloc ?_ _)); refine blk_put (cs := #[.int .i64 0, .slice none 0 0]) ?_ 0 _ rfl; (with_reducible repeat (first | refine blk_drewN ?_ _ | refine blk_drew ?_ | refine blk_alloc ?_ _)); exact BK121.out) hb); have n8_ := Aside0.mk (below_step zz8 hb); clear HO106; clear HO109; clear HO112; clear HO115; clear HO120; clear BK101; clear BK121; clear HB; have HO106 := n0_; have HO109 := n1_; have HO112 := n2_; have HO115 := n3_; have HO120 := n4_; have HO124 := n5_; have BK101 := n6_; have BK121 := n7_; have HB := n8_; clear n0_ n1_ n2_ n3_ n4_ n5_ n6_ n7_ n8_; (try clear hb); (try clear hb2); (try clear hk); (try clear hi); (try clear ho0); have hcz34_0 : w33.cell? ⟨gb121, 0, none⟩ = some (.int .i64 t117) := (blk_cell BK121.out 0).trans rfl; have hcz34_1 : w33.cell? ⟨gb121, 1, none⟩ = some (.slice Ao32 t118.length co32) := (blk_cell BK121.out 1).trans rfl; have hfz34_0 := blk_frozen BK121.out 0; have hfz34_1 := blk_frozen BK121.out 1; obtain ⟨Ao35, co35, eo35⟩ := Kd.R_slice HO124.out; subst eo35) | ((with_reducible refine gate_callee (f := 73) rfl ?_); refine goesL_ (some 48) rfl rfl Try.func73 (by kernel_rfl) rfl #[.agg #[.int .i64 t117, .slice Ao32 t118.length co32], .slice Ao35 t122.length co35, .int .i64 a2] rfl zz3 ?_; (with_reducible refine (impl_Stabilize.calls k t117 _ _ t118 _ _ t122 a2 t125 t128 t131 _ ?side1 ?side2 ?side3 ?side4 A16.out).mono ?_); (case side1 => repeat (first | exact (Kd.R_reads' HO120.out).2.2 | (with_reducible refine Kd.C_alloc ?_ _) | (with_reducible refine Kd.C_drewN ?_ _) | (with_reducible refine Kd.C_drew ?_))); (case side2 => exact (Kd.R_reads' HO120.out).2.1); (case side3 => repeat (first | exact (Kd.R_reads' HO124.out).2.2 | (with_reducible refine Kd.C_alloc ?_ _) | (with_reducible refine Kd.C_drewN ?_ _) | (with_reducible refine Kd.C_drew ?_))); (case side4 => exact (Kd.R_reads' HO124.out).2.1); rintro e w36 ⟨v126, v129, rfl, ho0, ho1, hb⟩; refine ⟨_, rfl, ?_⟩; have n0_ := Aside0.mk (Kd.R_below zz27 hb); have n1_ := Aside0.mk (Kd.R_mono (Kd.R_told (Kd.R_told (Kd.R_old zz23 hb) (Kd.R_base ho0)) (Kd.R_base ho1)) (fun _ h_ => h_.1)); have n2_ := Aside0.mk (Kd.R_mono (Kd.R_told (Kd.R_told (Kd.R_old zz32 hb) (Kd.R_base ho0)) (Kd.R_base ho1)) (fun _ h_ => h_.1)); have n3_ := Aside0.mk (Kd.R_mono (Kd.R_told (Kd.R_told (Kd.R_old zz33 hb) (Kd.R_base ho0)) (Kd.R_base ho1)) (fun _ h_ => h_.1)); have n4_ := Aside0.mk (Kd.R_below (by (with_reducible repeat (first | apply Kd.R_alloc | apply Kd.R_drewN | apply Kd.R_drew)); exact HO120.out) hb); have n5_ := Aside0.mk (Kd.R_mono (Kd.R_told (Kd.R_told (Kd.R_old (by (with_reducible repeat (first | apply Kd.R_alloc | apply Kd.R_drewN | apply Kd.R_drew)); exact HO124.out) hb) (Kd.R_base ho0)) (Kd.R_base ho1)) (fun _ h_ => h_.1)); have n6_ := Aside0.mk (Kd.R_lower (Kd.R_new' (Kd.R_new' (Kd.R_new' (Kd.R_new' ho0 (Kd.R_lt zz23)) (Kd.R_lt zz32)) (Kd.R_lt zz33)) (Kd.R_lt (by (with_reducible repeat (first | apply Kd.R_alloc | apply Kd.R_drewN | apply Kd.R_drew)); exact HO124.out))) (below_size zz8)); have n7_ := Aside0.mk (Kd.R_lower (Kd.R_new' (Kd.R_new' (Kd.R_new' (Kd.R_new' ho1 (Kd.R_lt zz23)) (Kd.R_lt zz32)) (Kd.R_lt zz33)) (Kd.R_lt (by (with_reducible repeat (first | apply Kd.R_alloc | apply Kd.R_drewN | apply Kd.R_drew)); exact HO124.out))) (below_size zz8)); have n8_ := Aside0.mk (blk_below (g := gb101) (o := .cells #[.int .i64 a0_0, .slice A0_1 l0_1.length c0_1] 33 (0, 0)) zz2 hb); have n9_ := Aside0.mk (blk_below (g := gb121) (o := .cells #[.int .i64 t117, .slice Ao32 t118.length co32] 38 (0, 0)) zz17 hb); have n10_ := Aside0.mk (below_step zz8 hb); clear HO106; clear HO109; clear HO112; clear HO115; clear HO120; clear HO124; clear BK101; clear BK121; clear HB; have HO106 := n0_; have HO109 := n1_; have HO112 := n2_; have HO115 := n3_; have HO120 := n4_; have HO124 := n5_; have HO127 := n6_; have HO130 := n7_; have BK101 := n8_; have BK121 := n9_; have HB := n10_; clear n0_ n1_ n2_ n3_ n4_ n5_ n6_ n7_ n8_ n9_ n10_; (try clear hb); (try clear hb2); (try clear hk); (try clear hi); (try clear ho0); (try clear ho1)))); (try simp only [Act.put, List.setIfInBounds_toArray, List.set_cons_zero, List.set_cons_succ]); go_cut [66] (fun v66 wc => ∃ (kq : Nat) (x66_16 : Bool), v66 = .bool x66_16 ∧ Aside0 (laws_FnExactStabilize.j0 kq l1 a2 t110 t113 t116 t122 t125 t128 t131 x66_16 a0_0 l0_1 t117 t118 = some r) ∧ Aside0 (kq ≤ k) ∧ Aside0 (Kd.R (Kd.int .i64) 3 wc w.heap.size (fun k_ => some k_ ≠ (v114 : Value).ownBlock ∧ some k_ ≠ ((.slice Ao35 t122.length co35) : Value).ownBlock ∧ some k_ ≠ (v126 : Value).ownBlock ∧ some k_ ≠ (v129 : Value).ownBlock) v111 t110) ∧ Aside0 (Kd.R (Kd.int .i64) 3 wc w.heap.size (fun k_ => some k_ ≠ (v111 : Value).ownBlock ∧ some k_ ≠ ((.slice Ao35 t122.length co35) : Value).ownBlock ∧ some k_ ≠ (v126 : Value).ownBlock ∧ some k_ ≠ (v129 : Value).ownBlock) v114 t113) ∧ Aside0 (Kd.R (Kd.int .i64) 3 wc w.heap.size (fun k_ => some k_ ≠ (v111 : Value).ownBlock ∧ some k_ ≠ (v114 : Value).ownBlock ∧ some k_ ≠ (v126 : Value).ownBlock ∧ some k_ ≠ (v129 : Value).ownBlock) (.slice Ao35 t122.length co35) t122) ∧ Aside0 (Kd.R (Kd.int .i64) 3 wc w.heap.size (fun k_ => some k_ ≠ (v111 : Value).ownBlock ∧ some k_ ≠ (v114 : Value).ownBlock ∧ some k_ ≠ ((.slice Ao35 t122.length co35) : Value).ownBlock ∧ some k_ ≠ (v129 : Value).ownBlock) v126 t125) ∧ Aside0 (Kd.R (Kd.int .i64) 3 wc w.heap.size (fun k_ => some k_ ≠ (v111 : Value).ownBlock ∧ some k_ ≠ (v114 : Value).ownBlock ∧ some k_ ≠ ((.slice Ao35 t122.length co35) : Value).ownBlock ∧ some k_ ≠ (v126 : Value).ownBlock) v129 t128) ∧ Aside0 (Kd.R k70 70 wc w.heap.size (fun _ => True) (.slice Ao32 t118.length co32) t118) ∧ Aside0 (wc.heap[gb101]? = some (.cells #[.int .i64 a0_0, (.slice A0_1 l0_1.length c0_1)] 33 (0, 0))) ∧ Aside0 (wc.heap[gb121]? = some (.cells #[.int .i64 t117, (.slice Ao32 t118.length co32)] 38 (0, 0))) ∧ Aside0 (Below w.heap.size w wc))
  case first =>
    have H := HC17.out; clear HC17; replace H := Option.bind_eq_some_iff.mp H; obtain ⟨t132, A370, H⟩ := H; replace H : (if t132 = true then ((laws_eqIntS.f k t128 t113).bind fun t133 => (if t133 = true then (laws_FnExactStabilize.j0 k l1 a2 t110 t113 t116 t122 t125 t128 t131 (t131 != t116) a0_0 l0_1 t117 t118) else (laws_FnExactStabilize.j0 k l1 a2 t110 t113 t116 t122 t125 t128 t131 true a0_0 l0_1 t117 t118))) else (laws_FnExactStabilize.j0 k l1 a2 t110 t113 t116 t122 t125 t128 t131 true a0_0 l0_1 t117 t118)) = some r := H; have A37 := Aside0.mk A370; clear A370; by_cases c38 : t132 = true; rotate_left
    · replace c38 := Bool.eq_false_iff.mpr c38; subst c38; (have H1 : (laws_FnExactStabilize.j0 k l1 a2 t110 t113 t116 t122 t125 t128 t131 true a0_0 l0_1 t117 t118) = some r := by rw [if_neg (show ¬ (false = true) by decide)] at H; exact H); clear H; have H := H1; clear H1; have H' := Aside0.mk H; clear H; obtain ⟨Ao49, co49, eo49⟩ := Kd.R_slice HO127.out; subst eo49; obtain ⟨Ao50, co50, eo50⟩ := Kd.R_slice HO112.out; subst eo50; (go_wp2_with (first | ((with_reducible refine gate_callee (f := 36) rfl ?_); refine goesL_ (some 54) rfl rfl Try.func36 (by kernel_rfl) rfl #[.slice Ao49 t125.length co49, .slice Ao50 t110.length co50] rfl zz3 ?_; (with_reducible refine (laws_eqIntS.calls k _ _ t125 _ _ t110 false _ ?side1 ?side2 ?side3 ?side4 A37.out).mono ?_); (case side1 => repeat (first | exact (Kd.R_reads' HO127.out).2.2 | (with_reducible refine Kd.C_alloc ?_ _) | (with_reducible refine Kd.C_drewN ?_ _) | (with_reducible refine Kd.C_drew ?_))); (case side2 => exact (Kd.R_reads' HO127.out).2.1); (case side3 => repeat (first | exact (Kd.R_reads' HO112.out).2.2 | (with_reducible refine Kd.C_alloc ?_ _) | (with_reducible refine Kd.C_drewN ?_ _) | (with_reducible refine Kd.C_drew ?_))); (case side4 => exact (Kd.R_reads' HO112.out).2.1); rintro e w' ⟨rfl, ⟨nd, rfl⟩⟩; refine ⟨_, rfl, ?_⟩))); (go_meet); case rel => exact ⟨_, (true), zz6, H', ⟨by first | omega | exact Nat.le_refl _⟩, ⟨by (with_reducible repeat (first | apply Kd.R_alloc | apply Kd.R_drewN | apply Kd.R_drew)); exact Kd.R_mono HO112.out (fun _ hk => ⟨hk.1.1.1.1, ⟨hk.1.1.2, ⟨hk.1.2, hk.2⟩⟩⟩)⟩, ⟨by (with_reducible repeat (first | apply Kd.R_alloc | apply Kd.R_drewN | apply Kd.R_drew)); exact Kd.R_mono HO115.out (fun _ hk => ⟨hk.1.1.1.1, ⟨hk.1.1.2, ⟨hk.1.2, hk.2⟩⟩⟩)⟩, ⟨by (with_reducible repeat (first | apply Kd.R_alloc | apply Kd.R_drewN | apply Kd.R_drew)); exact Kd.R_mono HO124.out (fun _ hk => ⟨hk.1.1.1.2, ⟨hk.1.1.2, ⟨hk.1.2, hk.2⟩⟩⟩)⟩, ⟨by (with_reducible repeat (first | apply Kd.R_alloc | apply Kd.R_drewN | apply Kd.R_drew)); exact Kd.R_mono HO127.out (fun _ hk => ⟨hk.1.1.2, ⟨hk.1.2, ⟨hk.2, hk.1.1.1.1⟩⟩⟩)⟩, ⟨by (with_reducible repeat (first | apply Kd.R_alloc | apply Kd.R_drewN | apply Kd.R_drew)); exact Kd.R_mono HO130.out (fun _ hk => ⟨hk.1.1.2, ⟨hk.1.2, ⟨hk.2, hk.1.1.1.1⟩⟩⟩)⟩, ⟨by (with_reducible repeat (first | apply Kd.R_alloc | apply Kd.R_drewN | apply Kd.R_drew)); exact Kd.R_mono HO120.out (fun _ hk => trivial)⟩, ⟨by (with_reducible repeat (first | refine blk_drewN ?_ _ | refine blk_drew ?_ | refine blk_alloc ?_ _)); exact BK101.out⟩, ⟨by (with_reducible repeat (first | refine blk_drewN ?_ _ | refine blk_drew ?_ | refine blk_alloc ?_ _)); exact BK121.out⟩, ⟨by repeat (first | (with_reducible first | exact HB.out | apply below_alloc | apply pw_below_drewN | apply below_drew1 | refine below_set ?_ GE101.out | refine below_set ?_ GE121.out) | exact HB.out)⟩⟩
    subst c38; (have H1 : ((laws_eqIntS.f k t128 t113).bind fun t133 => (if t133 = true then (laws_FnExactStabilize.j0 k l1 a2 t110 t113 t116 t122 t125 t128 t131 (t131 != t116) a0_0 l0_1 t117 t118) else (laws_FnExactStabilize.j0 k l1 a2 t110 t113 t116 t122 t125 t128 t131 true a0_0 l0_1 t117 t118))) = some r := by rw [if_pos rfl] at H; exact H); clear H; have H := H1; clear H1; replace H := Option.bind_eq_some_iff.mp H; obtain ⟨t133, A390, H⟩ := H; replace H : (if t133 = true then (laws_FnExactStabilize.j0 k l1 a2 t110 t113 t116 t122 t125 t128 t131 (t131 != t116) a0_0 l0_1 t117 t118) else (laws_FnExactStabilize.j0 k l1 a2 t110 t113 t116 t122 t125 t128 t131 true a0_0 l0_1 t117 t118)) = some r := H; have A39 := Aside0.mk A390; clear A390; by_cases c40 : t133 = true
    · subst c40; (have H1 : (laws_FnExactStabilize.j0 k l1 a2 t110 t113 t116 t122 t125 t128 t131 (t131 != t116) a0_0 l0_1 t117 t118) = some r := by rw [if_pos rfl] at H; exact H); clear H; have H := H1; clear H1; have H' := Aside0.mk H; clear H; obtain ⟨Ao41, co41, eo41⟩ := Kd.R_slice HO127.out; subst eo41; obtain ⟨Ao42, co42, eo42⟩ := Kd.R_slice HO112.out; subst eo42; (go_wp2_with (first | ((with_reducible refine gate_callee (f := 36) rfl ?_); refine goesL_ (some 54) rfl rfl Try.func36 (by kernel_rfl) rfl #[.slice Ao41 t125.length co41, .slice Ao42 t110.length co42] rfl zz3 ?_; (with_reducible refine (laws_eqIntS.calls k _ _ t125 _ _ t110 true _ ?side1 ?side2 ?side3 ?side4 A37.out).mono ?_); (case side1 => repeat (first | exact (Kd.R_reads' HO127.out).2.2 | (with_reducible refine Kd.C_alloc ?_ _) | (with_reducible refine Kd.C_drewN ?_ _) | (with_reducible refine Kd.C_drew ?_))); (case side2 => exact (Kd.R_reads' HO127.out).2.1); (case side3 => repeat (first | exact (Kd.R_reads' HO112.out).2.2 | (with_reducible refine Kd.C_alloc ?_ _) | (with_reducible refine Kd.C_drewN ?_ _) | (with_reducible refine Kd.C_drew ?_))); (case side4 => exact (Kd.R_reads' HO112.out).2.1); rintro e w' ⟨rfl, ⟨nd, rfl⟩⟩; refine ⟨_, rfl, ?_⟩; obtain ⟨Ao43, co43, eo43⟩ := Kd.R_slice HO130.out; subst eo43; obtain ⟨Ao44, co44, eo44⟩ := Kd.R_slice HO115.out; subst eo44) | (go_at_call 36; (with_reducible refine (laws_eqIntS.calls k _ _ t128 _ _ t113 true _ ?side1 ?side2 ?side3 ?side4 A39.out).mono ?_); (case side1 => repeat (first | exact (Kd.R_reads' HO130.out).2.2 | (with_reducible refine Kd.C_alloc ?_ _) | (with_reducible refine Kd.C_drewN ?_ _) | (with_reducible refine Kd.C_drew ?_))); (case side2 => exact (Kd.R_reads' HO130.out).2.1); (case side3 => repeat (first | exact (Kd.R_reads' HO115.out).2.2 | (with_reducible refine Kd.C_alloc ?_ _) | (with_reducible refine Kd.C_drewN ?_ _) | (with_reducible refine Kd.C_drew ?_))); (case side4 => exact (Kd.R_reads' HO115.out).2.1); rintro e w' ⟨rfl, ⟨nd, rfl⟩⟩))); (go_meet); case rel => exact ⟨_, ((t131 != t116)), zz6, H', ⟨by first | omega | exact Nat.le_refl _⟩, ⟨by (with_reducible repeat (first | apply Kd.R_alloc | apply Kd.R_drewN | apply Kd.R_drew)); exact Kd.R_mono HO112.out (fun _ hk => ⟨hk.1.1.1.1, ⟨hk.1.1.2, ⟨hk.1.2, hk.2⟩⟩⟩)⟩, ⟨by (with_reducible repeat (first | apply Kd.R_alloc | apply Kd.R_drewN | apply Kd.R_drew)); exact Kd.R_mono HO115.out (fun _ hk => ⟨hk.1.1.1.1, ⟨hk.1.1.2, ⟨hk.1.2, hk.2⟩⟩⟩)⟩, ⟨by (with_reducible repeat (first | apply Kd.R_alloc | apply Kd.R_drewN | apply Kd.R_drew)); exact Kd.R_mono HO124.out (fun _ hk => ⟨hk.1.1.1.2, ⟨hk.1.1.2, ⟨hk.1.2, hk.2⟩⟩⟩)⟩, ⟨by (with_reducible repeat (first | apply Kd.R_alloc | apply Kd.R_drewN | apply Kd.R_drew)); exact Kd.R_mono HO127.out (fun _ hk => ⟨hk.1.1.2, ⟨hk.1.2, ⟨hk.2, hk.1.1.1.1⟩⟩⟩)⟩, ⟨by (with_reducible repeat (first | apply Kd.R_alloc | apply Kd.R_drewN | apply Kd.R_drew)); exact Kd.R_mono HO130.out (fun _ hk => ⟨hk.1.1.2, ⟨hk.1.2, ⟨hk.2, hk.1.1.1.1⟩⟩⟩)⟩, ⟨by (with_reducible repeat (first | apply Kd.R_alloc | apply Kd.R_drewN | apply Kd.R_drew)); exact Kd.R_mono HO120.out (fun _ hk => trivial)⟩, ⟨by (with_reducible repeat (first | refine blk_drewN ?_ _ | refine blk_drew ?_ | refine blk_alloc ?_ _)); exact BK101.out⟩, ⟨by (with_reducible repeat (first | refine blk_drewN ?_ _ | refine blk_drew ?_ | refine blk_alloc ?_ _)); exact BK121.out⟩, ⟨by repeat (first | (with_reducible first | exact HB.out | apply below_alloc | apply pw_below_drewN | apply below_drew1 | refine below_set ?_ GE101.out | refine below_set ?_ GE121.out) | exact HB.out)⟩⟩
    replace c40 := Bool.eq_false_iff.mpr c40; subst c40; (have H1 : (laws_FnExactStabilize.j0 k l1 a2 t110 t113 t116 t122 t125 t128 t131 true a0_0 l0_1 t117 t118) = some r := by rw [if_neg (show ¬ (false = true) by decide)] at H; exact H); clear H; have H := H1; clear H1; have H' := Aside0.mk H; clear H; obtain ⟨Ao45, co45, eo45⟩ := Kd.R_slice HO127.out; subst eo45; obtain ⟨Ao46, co46, eo46⟩ := Kd.R_slice HO112.out; subst eo46; (go_wp2_with (first | ((with_reducible refine gate_callee (f := 36) rfl ?_); refine goesL_ (some 54) rfl rfl Try.func36 (by kernel_rfl) rfl #[.slice Ao45 t125.length co45, .slice Ao46 t110.length co46] rfl zz3 ?_; (with_reducible refine (laws_eqIntS.calls k _ _ t125 _ _ t110 true _ ?side1 ?side2 ?side3 ?side4 A37.out).mono ?_); (case side1 => repeat (first | exact (Kd.R_reads' HO127.out).2.2 | (with_reducible refine Kd.C_alloc ?_ _) | (with_reducible refine Kd.C_drewN ?_ _) | (with_reducible refine Kd.C_drew ?_))); (case side2 => exact (Kd.R_reads' HO127.out).2.1); (case side3 => repeat (first | exact (Kd.R_reads' HO112.out).2.2 | (with_reducible refine Kd.C_alloc ?_ _) | (with_reducible refine Kd.C_drewN ?_ _) | (with_reducible refine Kd.C_drew ?_))); (case side4 => exact (Kd.R_reads' HO112.out).2.1); rintro e w' ⟨rfl, ⟨nd, rfl⟩⟩; refine ⟨_, rfl, ?_⟩; obtain ⟨Ao47, co47, eo47⟩ := Kd.R_slice HO130.out; subst eo47; obtain ⟨Ao48, co48, eo48⟩ := Kd.R_slice HO115.out; subst eo48) | (go_at_call 36; (with_reducible refine (laws_eqIntS.calls k _ _ t128 _ _ t113 false _ ?side1 ?side2 ?side3 ?side4 A39.out).mono ?_); (case side1 => repeat (first | exact (Kd.R_reads' HO130.out).2.2 | (with_reducible refine Kd.C_alloc ?_ _) | (with_reducible refine Kd.C_drewN ?_ _) | (with_reducible refine Kd.C_drew ?_))); (case side2 => exact (Kd.R_reads' HO130.out).2.1); (case side3 => repeat (first | exact (Kd.R_reads' HO115.out).2.2 | (with_reducible refine Kd.C_alloc ?_ _) | (with_reducible refine Kd.C_drewN ?_ _) | (with_reducible refine Kd.C_drew ?_))); (case side4 => exact (Kd.R_reads' HO115.out).2.1); rintro e w' ⟨rfl, ⟨nd, rfl⟩⟩))); (go_meet); case rel => exact ⟨_, (true), zz6, H', ⟨by first | omega | exact Nat.le_refl _⟩, ⟨by (with_reducible repeat (first | apply Kd.R_alloc | apply Kd.R_drewN | apply Kd.R_drew)); exact Kd.R_mono HO112.out (fun _ hk => ⟨hk.1.1.1.1, ⟨hk.1.1.2, ⟨hk.1.2, hk.2⟩⟩⟩)⟩, ⟨by (with_reducible repeat (first | apply Kd.R_alloc | apply Kd.R_drewN | apply Kd.R_drew)); exact Kd.R_mono HO115.out (fun _ hk => ⟨hk.1.1.1.1, ⟨hk.1.1.2, ⟨hk.1.2, hk.2⟩⟩⟩)⟩, ⟨by (with_reducible repeat (first | apply Kd.R_alloc | apply Kd.R_drewN | apply Kd.R_drew)); exact Kd.R_mono HO124.out (fun _ hk => ⟨hk.1.1.1.2, ⟨hk.1.1.2, ⟨hk.1.2, hk.2⟩⟩⟩)⟩, ⟨by (with_reducible repeat (first | apply Kd.R_alloc | apply Kd.R_drewN | apply Kd.R_drew)); exact Kd.R_mono HO127.out (fun _ hk => ⟨hk.1.1.2, ⟨hk.1.2, ⟨hk.2, hk.1.1.1.1⟩⟩⟩)⟩, ⟨by (with_reducible repeat (first | apply Kd.R_alloc | apply Kd.R_drewN | apply Kd.R_drew)); exact Kd.R_mono HO130.out (fun _ hk => ⟨hk.1.1.2, ⟨hk.1.2, ⟨hk.2, hk.1.1.1.1⟩⟩⟩)⟩, ⟨by (with_reducible repeat (first | apply Kd.R_alloc | apply Kd.R_drewN | apply Kd.R_drew)); exact Kd.R_mono HO120.out (fun _ hk => trivial)⟩, ⟨by (with_reducible repeat (first | refine blk_drewN ?_ _ | refine blk_drew ?_ | refine blk_alloc ?_ _)); exact BK101.out⟩, ⟨by (with_reducible repeat (first | refine blk_drewN ?_ _ | refine blk_drew ?_ | refine blk_alloc ?_ _)); exact BK121.out⟩, ⟨by repeat (first | (with_reducible first | exact HB.out | apply below_alloc | apply pw_below_drewN | apply below_drew1 | refine below_set ?_ GE101.out | refine below_set ?_ GE121.out) | exact HB.out)⟩⟩
  case rest =>
    clear HC17; (try clear c1); (try clear p2); (try clear c3); (try clear c4); (try clear c4b0); (try clear c4b1); (try clear c7); (try clear c7b0); (try clear c17); (try clear c30); (try clear c36); (try clear c38); (try clear c40); (try clear c41); (try clear c43); (try clear c44); (try clear hcz19_0); (try clear hcz19_1); (try clear hcz21_0); (try clear hcz21_1); (try clear hcz27_0); (try clear hcz27_1); (try clear hcz31_0); (try clear hcz31_1); (try clear hcz34_0); (try clear hcz34_1); (try clear hcz9_0); (try clear hcz9_1); (try clear hfz19_0); (try clear hfz19_1); (try clear hfz21_0); (try clear hfz21_1); (try clear hfz27_0); (try clear hfz27_1); (try clear hfz31_0); (try clear hfz31_1); (try clear hfz34_0); (try clear hfz34_1); (try clear hfz9_0); (try clear hfz9_1); obtain ⟨kq, x66_16, rfl, HA, HJ16, HO_8, HO_9, HO_12, HO_13, HO_14, HO_122001, BK101, BK121, HB⟩ := hcut
    cases kq with
    | zero => exact absurd HA.out (by simp [laws_FnExactStabilize.j0])
    | succ kj16 =>
      have H := HA.out; clear HA; simp only [laws_FnExactStabilize.j0] at H; by_cases c51 : x66_16 = true
      · subst c51; (have H1 : (none) = some r := by rw [if_pos rfl] at H; exact H); clear H; have H := H1; clear H1; exact absurd H (by simp)
      replace c51 := Bool.eq_false_iff.mpr c51; subst c51; (have H1 : ((laws_toGraph.f kj16 a0_0 l0_1).bind fun bt134 => ((laws_eqGraph.f kj16 t117 t118 bt134.1 bt134.2).bind fun t138 => (if t138 = true then ((laws_toIntS.f kj16 l1).bind fun t139 => ((laws_eqIntS.f kj16 t122 t139).bind fun t142 => (if t142 = true then ((laws_markGraph.f kj16 t117 t118 1).bind fun bt143 => ((laws_markIntS.f kj16 t122 bt143.1).bind fun bt145 => (if bt145.1 < 0 then (laws_FnExactStabilize.j1 kj16 l1 a2 t110 t113 t116 t125 t128 true a0_0 l0_1) else ((laws_eqIntS.f kj16 t125 t110).bind fun t147 => (if t147 = true then ((laws_eqIntS.f kj16 t128 t113).bind fun t148 => (if t148 = true then (laws_FnExactStabilize.j1 kj16 l1 a2 t110 t113 t116 t125 t128 (t131 != t116) a0_0 l0_1) else (laws_FnExactStabilize.j1 kj16 l1 a2 t110 t113 t116 t125 t128 true a0_0 l0_1))) else (laws_FnExactStabilize.j1 kj16 l1 a2 t110 t113 t116 t125 t128 true a0_0 l0_1)))))) else (none)))) else (none)))) = some r := by rw [if_neg (show ¬ (false = true) by decide)] at H; exact H); clear H; have H := H1; clear H1; replace H := Option.bind_eq_some_iff.mp H; obtain ⟨⟨t134, t135⟩, A520, H⟩ := H; replace H : ((laws_eqGraph.f kj16 t117 t118 t134 t135).bind fun t138 => (if t138 = true then ((laws_toIntS.f kj16 l1).bind fun t139 => ((laws_eqIntS.f kj16 t122 t139).bind fun t142 => (if t142 = true then ((laws_markGraph.f kj16 t117 t118 1).bind fun bt143 => ((laws_markIntS.f kj16 t122 bt143.1).bind fun bt145 => (if bt145.1 < 0 then (laws_FnExactStabilize.j1 kj16 l1 a2 t110 t113 t116 t125 t128 true a0_0 l0_1) else ((laws_eqIntS.f kj16 t125 t110).bind fun t147 => (if t147 = true then ((laws_eqIntS.f kj16 t128 t113).bind fun t148 => (if t148 = true then (laws_FnExactStabilize.j1 kj16 l1 a2 t110 t113 t116 t125 t128 (t131 != t116) a0_0 l0_1) else (laws_FnExactStabilize.j1 kj16 l1 a2 t110 t113 t116 t125 t128 true a0_0 l0_1))) else (laws_FnExactStabilize.j1 kj16 l1 a2 t110 t113 t116 t125 t128 true a0_0 l0_1)))))) else (none)))) else (none))) = some r := H; have A52 := Aside0.mk A520; clear A520; replace H := Option.bind_eq_some_iff.mp H; obtain ⟨t138, A530, H⟩ := H; replace H : (if t138 = true then ((laws_toIntS.f kj16 l1).bind fun t139 => ((laws_eqIntS.f kj16 t122 t139).bind fun t142 => (if t142 = true then ((laws_markGraph.f kj16 t117 t118 1).bind fun bt143 => ((laws_markIntS.f kj16 t122 bt143.1).bind fun bt145 => (if bt145.1 < 0 then (laws_FnExactStabilize.j1 kj16 l1 a2 t110 t113 t116 t125 t128 true a0_0 l0_1) else ((laws_eqIntS.f kj16 t125 t110).bind fun t147 => (if t147 = true then ((laws_eqIntS.f kj16 t128 t113).bind fun t148 => (if t148 = true then (laws_FnExactStabilize.j1 kj16 l1 a2 t110 t113 t116 t125 t128 (t131 != t116) a0_0 l0_1) else (laws_FnExactStabilize.j1 kj16 l1 a2 t110 t113 t116 t125 t128 true a0_0 l0_1))) else (laws_FnExactStabilize.j1 kj16 l1 a2 t110 t113 t116 t125 t128 true a0_0 l0_1)))))) else (none)))) else (none)) = some r := H; have A53 := Aside0.mk A530; clear A530; by_cases c54 : t138 = true; rotate_left
      · replace c54 := Bool.eq_false_iff.mpr c54; subst c54; (have H1 : (none) = some r := by rw [if_neg (show ¬ (false = true) by decide)] at H; exact H); clear H; have H := H1; clear H1; exact absurd H (by simp)
      subst c54; (have H1 : ((laws_toIntS.f kj16 l1).bind fun t139 => ((laws_eqIntS.f kj16 t122 t139).bind fun t142 => (if t142 = true then ((laws_markGraph.f kj16 t117 t118 1).bind fun bt143 => ((laws_markIntS.f kj16 t122 bt143.1).bind fun bt145 => (if bt145.1 < 0 then (laws_FnExactStabilize.j1 kj16 l1 a2 t110 t113 t116 t125 t128 true a0_0 l0_1) else ((laws_eqIntS.f kj16 t125 t110).bind fun t147 => (if t147 = true then ((laws_eqIntS.f kj16 t128 t113).bind fun t148 => (if t148 = true then (laws_FnExactStabilize.j1 kj16 l1 a2 t110 t113 t116 t125 t128 (t131 != t116) a0_0 l0_1) else (laws_FnExactStabilize.j1 kj16 l1 a2 t110 t113 t116 t125 t128 true a0_0 l0_1))) else (laws_FnExactStabilize.j1 kj16 l1 a2 t110 t113 t116 t125 t128 true a0_0 l0_1)))))) else (none)))) = some r := by rw [if_pos rfl] at H; exact H); clear H; have H := H1; clear H1; replace H := Option.bind_eq_some_iff.mp H; obtain ⟨t139, A550, H⟩ := H; replace H : ((laws_eqIntS.f kj16 t122 t139).bind fun t142 => (if t142 = true then ((laws_markGraph.f kj16 t117 t118 1).bind fun bt143 => ((laws_markIntS.f kj16 t122 bt143.1).bind fun bt145 => (if bt145.1 < 0 then (laws_FnExactStabilize.j1 kj16 l1 a2 t110 t113 t116 t125 t128 true a0_0 l0_1) else ((laws_eqIntS.f kj16 t125 t110).bind fun t147 => (if t147 = true then ((laws_eqIntS.f kj16 t128 t113).bind fun t148 => (if t148 = true then (laws_FnExactStabilize.j1 kj16 l1 a2 t110 t113 t116 t125 t128 (t131 != t116) a0_0 l0_1) else (laws_FnExactStabilize.j1 kj16 l1 a2 t110 t113 t116 t125 t128 true a0_0 l0_1))) else (laws_FnExactStabilize.j1 kj16 l1 a2 t110 t113 t116 t125 t128 true a0_0 l0_1)))))) else (none))) = some r := H; have A55 := Aside0.mk A550; clear A550; replace H := Option.bind_eq_some_iff.mp H; obtain ⟨t142, A560, H⟩ := H; replace H : (if t142 = true then ((laws_markGraph.f kj16 t117 t118 1).bind fun bt143 => ((laws_markIntS.f kj16 t122 bt143.1).bind fun bt145 => (if bt145.1 < 0 then (laws_FnExactStabilize.j1 kj16 l1 a2 t110 t113 t116 t125 t128 true a0_0 l0_1) else ((laws_eqIntS.f kj16 t125 t110).bind fun t147 => (if t147 = true then ((laws_eqIntS.f kj16 t128 t113).bind fun t148 => (if t148 = true then (laws_FnExactStabilize.j1 kj16 l1 a2 t110 t113 t116 t125 t128 (t131 != t116) a0_0 l0_1) else (laws_FnExactStabilize.j1 kj16 l1 a2 t110 t113 t116 t125 t128 true a0_0 l0_1))) else (laws_FnExactStabilize.j1 kj16 l1 a2 t110 t113 t116 t125 t128 true a0_0 l0_1)))))) else (none)) = some r := H; have A56 := Aside0.mk A560; clear A560; by_cases c57 : t142 = true; rotate_left
      · replace c57 := Bool.eq_false_iff.mpr c57; subst c57; (have H1 : (none) = some r := by rw [if_neg (show ¬ (false = true) by decide)] at H; exact H); clear H; have H := H1; clear H1; exact absurd H (by simp)
      subst c57; (have H1 : ((laws_markGraph.f kj16 t117 t118 1).bind fun bt143 => ((laws_markIntS.f kj16 t122 bt143.1).bind fun bt145 => (if bt145.1 < 0 then (laws_FnExactStabilize.j1 kj16 l1 a2 t110 t113 t116 t125 t128 true a0_0 l0_1) else ((laws_eqIntS.f kj16 t125 t110).bind fun t147 => (if t147 = true then ((laws_eqIntS.f kj16 t128 t113).bind fun t148 => (if t148 = true then (laws_FnExactStabilize.j1 kj16 l1 a2 t110 t113 t116 t125 t128 (t131 != t116) a0_0 l0_1) else (laws_FnExactStabilize.j1 kj16 l1 a2 t110 t113 t116 t125 t128 true a0_0 l0_1))) else (laws_FnExactStabilize.j1 kj16 l1 a2 t110 t113 t116 t125 t128 true a0_0 l0_1)))))) = some r := by rw [if_pos rfl] at H; exact H); clear H; have H := H1; clear H1; replace H := Option.bind_eq_some_iff.mp H; obtain ⟨⟨t143, t144⟩, A580, H⟩ := H; replace H : ((laws_markIntS.f kj16 t122 t143).bind fun bt145 => (if bt145.1 < 0 then (laws_FnExactStabilize.j1 kj16 l1 a2 t110 t113 t116 t125 t128 true a0_0 l0_1) else ((laws_eqIntS.f kj16 t125 t110).bind fun t147 => (if t147 = true then ((laws_eqIntS.f kj16 t128 t113).bind fun t148 => (if t148 = true then (laws_FnExactStabilize.j1 kj16 l1 a2 t110 t113 t116 t125 t128 (t131 != t116) a0_0 l0_1) else (laws_FnExactStabilize.j1 kj16 l1 a2 t110 t113 t116 t125 t128 true a0_0 l0_1))) else (laws_FnExactStabilize.j1 kj16 l1 a2 t110 t113 t116 t125 t128 true a0_0 l0_1))))) = some r := H; have A58 := Aside0.mk A580; clear A580; replace H := Option.bind_eq_some_iff.mp H; obtain ⟨⟨t145, t146⟩, A590, H⟩ := H; replace H : (if t145 < 0 then (laws_FnExactStabilize.j1 kj16 l1 a2 t110 t113 t116 t125 t128 true a0_0 l0_1) else ((laws_eqIntS.f kj16 t125 t110).bind fun t147 => (if t147 = true then ((laws_eqIntS.f kj16 t128 t113).bind fun t148 => (if t148 = true then (laws_FnExactStabilize.j1 kj16 l1 a2 t110 t113 t116 t125 t128 (t131 != t116) a0_0 l0_1) else (laws_FnExactStabilize.j1 kj16 l1 a2 t110 t113 t116 t125 t128 true a0_0 l0_1))) else (laws_FnExactStabilize.j1 kj16 l1 a2 t110 t113 t116 t125 t128 true a0_0 l0_1)))) = some r := H; have A59 := Aside0.mk A590; clear A590; have HC60 := Aside0.mk H; clear H; (try go_wp2); have n0_ := Aside0.mk (Kd.R_drew HO_8.out); have n1_ := Aside0.mk (Kd.R_drew HO_9.out); have n2_ := Aside0.mk (Kd.R_drew HO_12.out); have n3_ := Aside0.mk (Kd.R_drew HO_13.out); have n4_ := Aside0.mk (Kd.R_drew HO_14.out); have n5_ := Aside0.mk (Kd.R_drew HO_122001.out); have n6_ := Aside0.mk (blk_drew BK101.out); have n7_ := Aside0.mk (blk_drew BK121.out); have n8_ := Aside0.mk (below_drew1 HB.out); clear HO_8; clear HO_9; clear HO_12; clear HO_13; clear HO_14; clear HO_122001; clear BK101; clear BK121; clear HB; have HO_8 := n0_; have HO_9 := n1_; have HO_12 := n2_; have HO_13 := n3_; have HO_14 := n4_; have HO_122001 := n5_; have BK101 := n6_; have BK121 := n7_; have HB := n8_; clear n0_ n1_ n2_ n3_ n4_ n5_ n6_ n7_ n8_; refine start_ (n := 5) (S := fun w' => w'.cell? ⟨gb121, 0, none⟩ = some (.int .i64 t117) ∧ w'.cell? ⟨gb121, 1, none⟩ = some (.slice Ao32 t118.length co32) ∧ w'.cell? ⟨gb101, 0, none⟩ = some (.int .i64 a0_0) ∧ w'.cell? ⟨gb101, 1, none⟩ = some (.slice A0_1 l0_1.length c0_1)) (ds := []) #[false, false, false, false, false] (by kernel_rfl) rfl rfl ⟨(blk_cell BK121.out 0).trans rfl, (blk_cell BK121.out 1).trans rfl, (blk_cell BK101.out 0).trans rfl, (blk_cell BK101.out 1).trans rfl⟩ (fun hHeld => ?_); generalize wc.drew = w61 at HO_8 HO_9 HO_12 HO_13 HO_14 HO_122001 BK101 BK121 HB hHeld ⊢; refine take_ (i := 0) (N := some 67) (v := ?_) (a' := ?_) #[true, false, false, false, false] rfl rfl (by kernel_rfl) (fun _ _ _ h => h) (Or.inl ⟨by rfl, ?_⟩) hHeld ?_ ?_; rotate_left
      · rintro w' ⟨s0, s1, s2, s3⟩; exact zzT
      rotate_left
      · exact zzS
      refine take_ (i := 1) (N := some 68) (v := ?_) (a' := ?_) #[true, true, false, false, false] rfl rfl (by kernel_rfl) (fun _ _ _ h => h) (Or.inl ⟨by rfl, ?_⟩) hHeld ?_ ?_; rotate_left
      · rintro w' ⟨s0, s1, s2, s3⟩; exact zzT
      rotate_left
      · exact zzS
      refine one_ (i := 2) (N := some 69) #[true, true, true, false, false] rfl rfl (by kernel_rfl) (by decide) (fun K hK => ?_); refine goes_ Try.func43 (by kernel_rfl) rfl #[.agg #[.int .i64 a0_0, .slice A0_1 l0_1.length c0_1]] (by rfl) rfl rfl zz3 ?_; (with_reducible refine (laws_toGraph.calls kj16 a0_0 _ _ l0_1 t134 t135 _ ?side1 ?side2 A52.out).mono ?_); (case side1 => repeat (first | exact (Kd.C_below HR0_1.out HB.out) | (with_reducible refine Kd.C_alloc ?_ _) | (with_reducible refine Kd.C_drewN ?_ _) | (with_reducible refine Kd.C_drew ?_))); (case side2 => exact HC0_1.out); rintro e w62 ⟨v136, rfl, ho0, hb⟩; refine ⟨_, rfl, ?_⟩; have n0_ := Aside0.mk (Kd.R_below zz14 hb); have n1_ := Aside0.mk (Kd.R_below zz15 hb); have n2_ := Aside0.mk (Kd.R_below (by (with_reducible repeat (first | apply Kd.R_alloc | apply Kd.R_drewN | apply Kd.R_drew)); exact HO_12.out) hb); have n3_ := Aside0.mk (Kd.R_below zz18 hb); have n4_ := Aside0.mk (Kd.R_below zz19 hb); have n5_ := Aside0.mk (Kd.R_elder' zz21 (Kd.R_base ho0) hb); have n6_ := Aside0.mk (Kd.R_lower (Kd.R_new' ho0 (Kd.R_lt zz21)) (below_size zz8)); have n7_ := Aside0.mk (blk_below (g := gb101) (o := .cells #[.int .i64 a0_0, .slice A0_1 l0_1.length c0_1] 33 (0, 0)) zz2 hb); have n8_ := Aside0.mk (blk_below (g := gb121) (o := .cells #[.int .i64 t117, .slice Ao32 t118.length co32] 38 (0, 0)) zz17 hb); have n9_ := Aside0.mk (below_step zz8 hb); clear HO_8; clear HO_9; clear HO_12; clear HO_13; clear HO_14; clear HO_122001; clear BK101; clear BK121; clear HB; have HO_8 := n0_; have HO_9 := n1_; have HO_12 := n2_; have HO_13 := n3_; have HO_14 := n4_; have HO_122001 := n5_; have HO137 := n6_; have BK101 := n7_; have BK121 := n8_; have HB := n9_; clear n0_ n1_ n2_ n3_ n4_ n5_ n6_ n7_ n8_ n9_; (try clear hb); (try clear hb2); (try clear hk); (try clear hi); (try clear ho0); obtain ⟨Ao63, co63, eo63⟩ := Kd.R_slice HO137.out; (first | subst eo63 | (injection eo63 with f1_ f2_ f3_; have f4_ := f1_.symm; have f5_ := f3_.symm; clear f1_ f2_ f3_; subst f4_; subst f5_)); refine hK.out _ _ ⟨(blk_cell BK121.out 0).trans rfl, (blk_cell BK121.out 1).trans rfl, (blk_cell BK101.out 0).trans rfl, (blk_cell BK101.out 1).trans rfl⟩ (fun hHeld => ?_); clear hK K; refine norm_ (a' := ?_) ?_ ?_; rotate_left
      · show Act.put _ (some 69) _ = _; exact zzS
      refine one_ (i := 3) (N := some 70) #[true, true, true, true, false] rfl rfl (by kernel_rfl) (by decide) (fun K hK => ?_); refine goes_ Try.func46 (by kernel_rfl) rfl #[.agg #[.int .i64 t117, .slice Ao32 t118.length co32], .agg #[.int .i64 t134, .slice Ao63 t135.length co63]] (by rfl) rfl rfl zz3 ?_; (with_reducible refine (laws_eqGraph.calls kj16 t117 _ _ t118 t134 _ _ t135 true _ ?side1 ?side2 ?side3 ?side4 A53.out).mono ?_); (case side1 => repeat (first | exact (Kd.R_reads' HO_122001.out).2.2 | (with_reducible refine Kd.C_alloc ?_ _) | (with_reducible refine Kd.C_drewN ?_ _) | (with_reducible refine Kd.C_drew ?_))); (case side2 => exact (Kd.R_reads' HO_122001.out).2.1); (case side3 => repeat (first | exact (Kd.R_reads' HO137.out).2.2 | (with_reducible refine Kd.C_alloc ?_ _) | (with_reducible refine Kd.C_drewN ?_ _) | (with_reducible refine Kd.C_drew ?_))); (case side4 => exact (Kd.R_reads' HO137.out).2.1); rintro e w64 ⟨rfl, hb⟩; refine ⟨_, rfl, ?_⟩; have n0_ := Aside0.mk (Kd.R_below zz14 hb); have n1_ := Aside0.mk (Kd.R_below zz15 hb); have n2_ := Aside0.mk (Kd.R_below (by (with_reducible repeat (first | apply Kd.R_alloc | apply Kd.R_drewN | apply Kd.R_drew)); exact HO_12.out) hb); have n3_ := Aside0.mk (Kd.R_below zz18 hb); have n4_ := Aside0.mk (Kd.R_below zz19 hb); have n5_ := Aside0.mk (Kd.R_below zz21 hb); have n6_ := Aside0.mk (Kd.R_below (by (with_reducible repeat (first | apply Kd.R_alloc | apply Kd.R_drewN | apply Kd.R_drew)); exact HO137.out) hb); have n7_ := Aside0.mk (blk_below (g := gb101) (o := .cells #[.int .i64 a0_0, .slice A0_1 l0_1.length c0_1] 33 (0, 0)) zz2 hb); have n8_ := Aside0.mk (blk_below (g := gb121) (o := .cells #[.int .i64 t117, .slice Ao32 t118.length co32] 38 (0, 0)) zz17 hb); have n9_ := Aside0.mk (below_step zz8 hb); clear HO_8; clear HO_9; clear HO_12; clear HO_13; clear HO_14; clear HO_122001; clear HO137; clear BK101; clear BK121; clear HB; have HO_8 := n0_; have HO_9 := n1_; have HO_12 := n2_; have HO_13 := n3_; have HO_14 := n4_; have HO_122001 := n5_; have HO137 := n6_; have BK101 := n7_; have BK121 := n8_; have HB := n9_; clear n0_ n1_ n2_ n3_ n4_ n5_ n6_ n7_ n8_ n9_; (try clear hb); (try clear hb2); (try clear hk); (try clear hi); refine hK.out _ _ ⟨(blk_cell BK121.out 0).trans rfl, (blk_cell BK121.out 1).trans rfl, (blk_cell BK101.out 0).trans rfl, (blk_cell BK101.out 1).trans rfl⟩ (fun hHeld => ?_); clear hK K; refine norm_ (a' := ?_) ?_ ?_; rotate_left
      · show Act.put _ (some 70) _ = _; exact zzS
      refine pure_ (i := 4) (N := some 71) (v := ?_) (a' := ?_) #[true, true, true, true, true] rfl rfl (by kernel_rfl) (fun _ _ _ h => h) (Or.inl ⟨by rfl, ?_⟩) ?_ ?_; rotate_left
      · intro w'; exact zzT
      rotate_left
      · exact zzS
      refine done_ (by kernel_rfl) ?_; (go_upto_region 20 with (first | ((with_reducible refine gate_callee (f := 44) rfl ?_); refine goesL_ (some 74) rfl rfl Try.func44 (by kernel_rfl) rfl #[.slice A1 l1.length c1] rfl zz3 ?_; (with_reducible refine (laws_toIntS.calls kj16 _ _ l1 t139 _ ?side1 ?side2 A55.out).mono ?_); (case side1 => repeat (first | exact (Kd.C_below HR1.out HB.out) | (with_reducible refine Kd.C_alloc ?_ _) | (with_reducible refine Kd.C_drewN ?_ _) | (with_reducible refine Kd.C_drew ?_))); (case side2 => exact HC1.out); rintro e w65 ⟨v140, rfl, ho0, hb⟩; refine ⟨_, rfl, ?_⟩; have n0_ := Aside0.mk (Kd.R_elder' zz14 (Kd.R_base ho0) hb); have n1_ := Aside0.mk (Kd.R_elder' zz15 (Kd.R_base ho0) hb); have n2_ := Aside0.mk (Kd.R_elder' (by (with_reducible repeat (first | apply Kd.R_alloc | apply Kd.R_drewN | apply Kd.R_drew)); exact HO_12.out) (Kd.R_base ho0) hb); have n3_ := Aside0.mk (Kd.R_elder' zz18 (Kd.R_base ho0) hb); have n4_ := Aside0.mk (Kd.R_elder' zz19 (Kd.R_base ho0) hb); have n5_ := Aside0.mk (Kd.R_below zz21 hb); have n6_ := Aside0.mk (Kd.R_below (by (with_reducible repeat (first | apply Kd.R_alloc | apply Kd.R_drewN | apply Kd.R_drew)); exact HO137.out) hb); have n7_ := Aside0.mk (Kd.R_lower (Kd.R_new' (Kd.R_new' (Kd.R_new' (Kd.R_new' (Kd.R_new' ho0 (Kd.R_lt zz14)) (Kd.R_lt zz15)) (Kd.R_lt (by (with_reducible repeat (first | apply Kd.R_alloc | apply Kd.R_drewN | apply Kd.R_drew)); exact HO_12.out))) (Kd.R_lt zz18)) (Kd.R_lt zz19)) (below_size zz8)); have n8_ := Aside0.mk (blk_below (g := gb101) (o := .cells #[.int .i64 a0_0, .slice A0_1 l0_1.length c0_1] 33 (0, 0)) zz2 hb); have n9_ := Aside0.mk (blk_below (g := gb121) (o := .cells #[.int .i64 t117, .slice Ao32 t118.length co32] 38 (0, 0)) zz17 hb); have n10_ := Aside0.mk (below_step zz8 hb); clear HO_8; clear HO_9; clear HO_12; clear HO_13; clear HO_14; clear HO_122001; clear HO137; clear BK101; clear BK121; clear HB; have HO_8 := n0_; have HO_9 := n1_; have HO_12 := n2_; have HO_13 := n3_; have HO_14 := n4_; have HO_122001 := n5_; have HO137 := n6_; have HO141 := n7_; have BK101 := n8_; have BK121 := n9_; have HB := n10_; clear n0_ n1_ n2_ n3_ n4_ n5_ n6_ n7_ n8_ n9_ n10_; (try clear hb); (try clear hb2); (try clear hk); (try clear hi); (try clear ho0); obtain ⟨Ao66, co66, eo66⟩ := Kd.R_slice HO141.out; subst eo66) | ((with_reducible refine gate_callee (f := 36) rfl ?_); refine goesL_ (some 75) rfl rfl Try.func36 (by kernel_rfl) rfl #[.slice Ao35 t122.length co35, .slice Ao66 t139.length co66] rfl zz3 ?_; (with_reducible refine (laws_eqIntS.calls kj16 _ _ t122 _ _ t139 true _ ?side1 ?side2 ?side3 ?side4 A56.out).mono ?_); (case side1 => repeat (first | exact (Kd.R_reads' HO_12.out).2.2 | (with_reducible refine Kd.C_alloc ?_ _) | (with_reducible refine Kd.C_drewN ?_ _) | (with_reducible refine Kd.C_drew ?_))); (case side2 => exact (Kd.R_reads' HO_12.out).2.1); (case side3 => repeat (first | exact (Kd.R_reads' HO141.out).2.2 | (with_reducible refine Kd.C_alloc ?_ _) | (with_reducible refine Kd.C_drewN ?_ _) | (with_reducible refine Kd.C_drew ?_))); (case side4 => exact (Kd.R_reads' HO141.out).2.1); rintro e w' ⟨rfl, ⟨nd, rfl⟩⟩; refine ⟨_, rfl, ?_⟩; have hnb67 := NB121_101.out; have hnc67 := NB101_121.out; have hcz68_0 : w65.cell? ⟨gb121, 0, none⟩ = some (.int .i64 t117) := (blk_cell BK121.out 0).trans rfl; have hcz68_1 : w65.cell? ⟨gb121, 1, none⟩ = some (.slice Ao32 t118.length co32) := (blk_cell BK121.out 1).trans rfl; have hfz68_0 := blk_frozen BK121.out 0; have hfz68_1 := blk_frozen BK121.out 1) | ((with_reducible refine gate_callee (f := 49) rfl ?_); refine goesL_ (some 79) rfl rfl Try.func49 (by kernel_rfl) rfl #[.agg #[.int .i64 t117, .slice Ao32 t118.length co32], .int .i64 1] rfl zz3 ?_; (with_reducible refine (laws_markGraph.calls kj16 t117 (fun k_ => some k_ = (.slice Ao32 t118.length co32 : Value).ownBlock) (.slice Ao32 t118.length co32) t118 1 t143 t144 w _ ?side1 ?side2 A58.out).mono ?_); (case side1 => repeat (first | (with_reducible first | exact HB.out | apply below_alloc | apply pw_below_drewN | apply below_drew1 | refine below_set ?_ GE101.out | refine below_set ?_ GE121.out) | exact HB.out)); (case side2 => exact Kd.R_tight rfl HO_122001.out); rintro e w69 ⟨rfl, hy0, hb, hkp⟩; refine ⟨_, rfl, ?_⟩; have n0_ := Aside0.mk (Kd.R_mono (ok' := fun k_ => some k_ ≠ (v114 : Value).ownBlock ∧ some k_ ≠ (.slice Ao35 t122.length co35 : Value).ownBlock ∧ some k_ ≠ (v126 : Value).ownBlock ∧ some k_ ≠ (v129 : Value).ownBlock ∧ some k_ ≠ (.slice Ao66 t139.length co66 : Value).ownBlock) (Kd.R_keptB ((Kd.R_apart' HO_8.out (Kd.R_typed HO_122001.out) (by decide))) hkp (fun k_ hk_ hs_ => (hk_.2) hs_)) (fun k_ hk_ => ⟨hk_.1.1.1.1, hk_.1.1.1.2.1, hk_.1.1.1.2.2.1, hk_.1.1.1.2.2.2, hk_.1.1.2⟩)); have n1_ := Aside0.mk (Kd.R_mono (ok' := fun k_ => some k_ ≠ (v111 : Value).ownBlock ∧ some k_ ≠ (.slice Ao35 t122.length co35 : Value).ownBlock ∧ some k_ ≠ (v126 : Value).ownBlock ∧ some k_ ≠ (v129 : Value).ownBlock ∧ some k_ ≠ (.slice Ao66 t139.length co66 : Value).ownBlock) (Kd.R_keptB ((Kd.R_apart' HO_9.out (Kd.R_typed HO_122001.out) (by decide))) hkp (fun k_ hk_ hs_ => (hk_.2) hs_)) (fun k_ hk_ => ⟨hk_.1.1.1.1, hk_.1.1.1.2.1, hk_.1.1.1.2.2.1, hk_.1.1.1.2.2.2, hk_.1.1.2⟩)); have n2_ := Aside0.mk (Kd.R_mono (ok' := fun k_ => some k_ ≠ (v111 : Value).ownBlock ∧ some k_ ≠ (v114 : Value).ownBlock ∧ some k_ ≠ (v126 : Value).ownBlock ∧ some k_ ≠ (v129 : Value).ownBlock ∧ some k_ ≠ (.slice Ao66 t139.length co66 : Value).ownBlock) (Kd.R_keptB ((Kd.R_apart' HO_12.out (Kd.R_typed HO_122001.out) (by decide))) hkp (fun k_ hk_ hs_ => (hk_.2) hs_)) (fun k_ hk_ => ⟨hk_.1.1.1.1, hk_.1.1.1.2.1, hk_.1.1.1.2.2.1, hk_.1.1.1.2.2.2, hk_.1.1.2⟩)); have n3_ := Aside0.mk (Kd.R_mono (ok' := fun k_ => some k_ ≠ (v111 : Value).ownBlock ∧ some k_ ≠ (v114 : Value).ownBlock ∧ some k_ ≠ (.slice Ao35 t122.length co35 : Value).ownBlock ∧ some k_ ≠ (v129 : Value).ownBlock ∧ some k_ ≠ (.slice Ao66 t139.length co66 : Value).ownBlock) (Kd.R_keptB ((Kd.R_apart' HO_13.out (Kd.R_typed HO_122001.out) (by decide))) hkp (fun k_ hk_ hs_ => (hk_.2) hs_)) (fun k_ hk_ => ⟨hk_.1.1.1.1, hk_.1.1.1.2.1, hk_.1.1.1.2.2.1, hk_.1.1.1.2.2.2, hk_.1.1.2⟩)); have n4_ := Aside0.mk (Kd.R_mono (ok' := fun k_ => some k_ ≠ (v111 : Value).ownBlock ∧ some k_ ≠ (v114 : Value).ownBlock ∧ some k_ ≠ (.slice Ao35 t122.length co35 : Value).ownBlock ∧ some k_ ≠ (v126 : Value).ownBlock ∧ some k_ ≠ (.slice Ao66 t139.length co66 : Value).ownBlock) (Kd.R_keptB ((Kd.R_apart' HO_14.out (Kd.R_typed HO_122001.out) (by decide))) hkp (fun k_ hk_ hs_ => (hk_.2) hs_)) (fun k_ hk_ => ⟨hk_.1.1.1.1, hk_.1.1.1.2.1, hk_.1.1.1.2.2.1, hk_.1.1.1.2.2.2, hk_.1.1.2⟩)); have n5_ := Aside0.mk (Kd.R_reok rfl hy0 (fun k_ e_ => HO_122001.out.1 k_ e_)); have n6_ := Aside0.mk (blk_kept zz2 hkp (fun hs_ => (fun e_ => (Kd.R_ne HO_122001.out BK101.out (by decide)) e_) hs_)); have n7_ := Aside0.mk (blk_kept zz17 hkp (fun hs_ => (fun e_ => (Kd.R_ne HO_122001.out BK121.out (by decide)) e_) hs_)); have n8_ := Aside0.mk (Kd.R_mono (ok' := fun k_ => some k_ ≠ (.slice Ao32 t118.length co32 : Value).ownBlock) (Kd.R_keptB (HO137.out) hkp (fun k_ hk_ hs_ => (hk_.2) hs_)) (fun k_ hk_ => hk_.1.2)); have n9_ := Aside0.mk (Kd.R_mono (ok' := fun k_ => some k_ ≠ (v111 : Value).ownBlock ∧ some k_ ≠ (v114 : Value).ownBlock ∧ some k_ ≠ (.slice Ao35 t122.length co35 : Value).ownBlock ∧ some k_ ≠ (v126 : Value).ownBlock ∧ some k_ ≠ (v129 : Value).ownBlock) (Kd.R_keptB ((Kd.R_apart' HO141.out (Kd.R_typed HO_122001.out) (by decide))) hkp (fun k_ hk_ hs_ => (hk_.2) hs_)) (fun k_ hk_ => ⟨hk_.1.1.1.1.1.1.2, hk_.1.1.1.1.1.2, hk_.1.1.1.1.2, hk_.1.1.1.2, hk_.1.1.2⟩)); have n10_ := Aside0.mk (hb); clear HO_8; clear HO_9; clear HO_12; clear HO_13; clear HO_14; clear HO_122001; clear BK101; clear BK121; clear HO137; clear HO141; clear HB; have HO_8 := n0_; have HO_9 := n1_; have HO_12 := n2_; have HO_13 := n3_; have HO_14 := n4_; have HO_122001 := n5_; have BK101 := n6_; have BK121 := n7_; have HO137 := n8_; have HO141 := n9_; have HB := n10_; clear n0_ n1_ n2_ n3_ n4_ n5_ n6_ n7_ n8_ n9_ n10_; (try clear hb); (try clear hkp); (try clear hy0)) | ((with_reducible refine gate_callee (f := 39) rfl ?_); refine goesL_ (some 82) rfl rfl Try.func39 (by kernel_rfl) rfl #[.slice Ao35 t122.length co35, .int .i64 t143] rfl zz3 ?_; (with_reducible refine (laws_markIntS.calls kj16 (fun k_ => some k_ = (.slice Ao35 t122.length co35 : Value).ownBlock) (.slice Ao35 t122.length co35) t122 t143 t145 t146 w _ ?side1 ?side2 A59.out).mono ?_); (case side1 => repeat (first | (with_reducible first | exact HB.out | apply below_alloc | apply pw_below_drewN | apply below_drew1 | refine below_set ?_ GE101.out | refine below_set ?_ GE121.out) | exact HB.out)); (case side2 => exact Kd.R_tight rfl HO_12.out); rintro e w70 ⟨rfl, hy0, hb, hkp⟩; refine ⟨_, rfl, ?_⟩; have n0_ := Aside0.mk (Kd.R_mono (ok' := fun k_ => some k_ ≠ (v114 : Value).ownBlock ∧ some k_ ≠ (.slice Ao35 t122.length co35 : Value).ownBlock ∧ some k_ ≠ (v126 : Value).ownBlock ∧ some k_ ≠ (v129 : Value).ownBlock ∧ some k_ ≠ (.slice Ao66 t139.length co66 : Value).ownBlock) (Kd.R_keptB (HO_8.out) hkp (fun k_ hk_ hs_ => (hk_.2.1) hs_)) (fun k_ hk_ => ⟨hk_.1.1, hk_.1.2.1, hk_.1.2.2.1, hk_.1.2.2.2.1, hk_.1.2.2.2.2⟩)); have n1_ := Aside0.mk (Kd.R_mono (ok' := fun k_ => some k_ ≠ (v111 : Value).ownBlock ∧ some k_ ≠ (.slice Ao35 t122.length co35 : Value).ownBlock ∧ some k_ ≠ (v126 : Value).ownBlock ∧ some k_ ≠ (v129 : Value).ownBlock ∧ some k_ ≠ (.slice Ao66 t139.length co66 : Value).ownBlock) (Kd.R_keptB (HO_9.out) hkp (fun k_ hk_ hs_ => (hk_.2.1) hs_)) (fun k_ hk_ => ⟨hk_.1.1, hk_.1.2.1, hk_.1.2.2.1, hk_.1.2.2.2.1, hk_.1.2.2.2.2⟩)); have n2_ := Aside0.mk (Kd.R_reok rfl hy0 (fun k_ e_ => HO_12.out.1 k_ e_)); have n3_ := Aside0.mk (Kd.R_mono (ok' := fun k_ => some k_ ≠ (v111 : Value).ownBlock ∧ some k_ ≠ (v114 : Value).ownBlock ∧ some k_ ≠ (.slice Ao35 t122.length co35 : Value).ownBlock ∧ some k_ ≠ (v129 : Value).ownBlock ∧ some k_ ≠ (.slice Ao66 t139.length co66 : Value).ownBlock) (Kd.R_keptB (HO_13.out) hkp (fun k_ hk_ hs_ => (hk_.2.2.1) hs_)) (fun k_ hk_ => ⟨hk_.1.1, hk_.1.2.1, hk_.1.2.2.1, hk_.1.2.2.2.1, hk_.1.2.2.2.2⟩)); have n4_ := Aside0.mk (Kd.R_mono (ok' := fun k_ => some k_ ≠ (v111 : Value).ownBlock ∧ some k_ ≠ (v114 : Value).ownBlock ∧ some k_ ≠ (.slice Ao35 t122.length co35 : Value).ownBlock ∧ some k_ ≠ (v126 : Value).ownBlock ∧ some k_ ≠ (.slice Ao66 t139.length co66 : Value).ownBlock) (Kd.R_keptB (HO_14.out) hkp (fun k_ hk_ hs_ => (hk_.2.2.1) hs_)) (fun k_ hk_ => ⟨hk_.1.1, hk_.1.2.1, hk_.1.2.2.1, hk_.1.2.2.2.1, hk_.1.2.2.2.2⟩)); have n5_ := Aside0.mk (Kd.R_mono (ok' := fun k_ => some k_ ≠ (.slice Ao63 t135.length co63 : Value).ownBlock) (Kd.R_keptB ((Kd.R_apart' HO_122001.out (Kd.R_typed HO_12.out) (by decide))) hkp (fun k_ hk_ hs_ => (hk_.2) hs_)) (fun k_ hk_ => hk_.1.1.2)); have n6_ := Aside0.mk (blk_kept zz2 hkp (fun hs_ => (fun e_ => (Kd.R_ne HO_12.out BK101.out (by decide)) e_) hs_)); have n7_ := Aside0.mk (blk_kept zz17 hkp (fun hs_ => (fun e_ => (Kd.R_ne HO_12.out BK121.out (by decide)) e_) hs_)); have n8_ := Aside0.mk (Kd.R_mono (ok' := fun k_ => some k_ ≠ (.slice Ao32 t118.length co32 : Value).ownBlock) (Kd.R_keptB ((Kd.R_apart' HO137.out (Kd.R_typed HO_12.out) (by decide))) hkp (fun k_ hk_ hs_ => (hk_.2) hs_)) (fun k_ hk_ => hk_.1.1)); have n9_ := Aside0.mk (Kd.R_mono (ok' := fun k_ => some k_ ≠ (v111 : Value).ownBlock ∧ some k_ ≠ (v114 : Value).ownBlock ∧ some k_ ≠ (.slice Ao35 t122.length co35 : Value).ownBlock ∧ some k_ ≠ (v126 : Value).ownBlock ∧ some k_ ≠ (v129 : Value).ownBlock) (Kd.R_keptB (HO141.out) hkp (fun k_ hk_ hs_ => (hk_.2.2.1) hs_)) (fun k_ hk_ => ⟨hk_.1.1, hk_.1.2.1, hk_.1.2.2.1, hk_.1.2.2.2.1, hk_.1.2.2.2.2⟩)); have n10_ := Aside0.mk (hb); clear HO_8; clear HO_9; clear HO_12; clear HO_13; clear HO_14; clear HO_122001; clear BK101; clear BK121; clear HO137; clear HO141; clear HB; have HO_8 := n0_; have HO_9 := n1_; have HO_12 := n2_; have HO_13 := n3_; have HO_14 := n4_; have HO_122001 := n5_; have BK101 := n6_; have BK121 := n7_; have HO137 := n8_; have HO141 := n9_; have HB := n10_; clear n0_ n1_ n2_ n3_ n4_ n5_ n6_ n7_ n8_ n9_ n10_; (try clear hb); (try clear hkp); (try clear hy0)))); (try simp only [Act.put, List.setIfInBounds_toArray, List.set_cons_zero, List.set_cons_succ]); go_cut [101] (fun v101 wc => ∃ (kq : Nat) (x101_59 : Bool), v101 = .bool x101_59 ∧ Aside0 (laws_FnExactStabilize.j1 kq l1 a2 t110 t113 t116 t125 t128 x101_59 a0_0 l0_1 = some r) ∧ Aside0 (kq ≤ kj16) ∧ Aside0 (Kd.R (Kd.int .i64) 3 wc w.heap.size (fun k_ => some k_ ≠ (v114 : Value).ownBlock ∧ some k_ ≠ (v126 : Value).ownBlock ∧ some k_ ≠ (v129 : Value).ownBlock) v111 t110) ∧ Aside0 (Kd.R (Kd.int .i64) 3 wc w.heap.size (fun k_ => some k_ ≠ (v111 : Value).ownBlock ∧ some k_ ≠ (v126 : Value).ownBlock ∧ some k_ ≠ (v129 : Value).ownBlock) v114 t113) ∧ Aside0 (Kd.R (Kd.int .i64) 3 wc w.heap.size (fun k_ => some k_ ≠ (v111 : Value).ownBlock ∧ some k_ ≠ (v114 : Value).ownBlock ∧ some k_ ≠ (v129 : Value).ownBlock) v126 t125) ∧ Aside0 (Kd.R (Kd.int .i64) 3 wc w.heap.size (fun k_ => some k_ ≠ (v111 : Value).ownBlock ∧ some k_ ≠ (v114 : Value).ownBlock ∧ some k_ ≠ (v126 : Value).ownBlock) v129 t128) ∧ Aside0 (Kd.R k70 70 wc w.heap.size (fun _ => True) (.slice Ao32 t118.length co32) t144) ∧ Aside0 (wc.heap[gb101]? = some (.cells #[.int .i64 a0_0, (.slice A0_1 l0_1.length c0_1)] 33 (0, 0))) ∧ Aside0 (wc.heap[gb121]? = some (.cells #[.int .i64 t117, (.slice Ao32 t118.length co32)] 38 (0, 0))) ∧ Aside0 (Below w.heap.size w wc))
      case first =>
        have H := HC60.out; clear HC60; by_cases c71 : t145 < 0
        · rw [if_pos c71] at H; have c71b0 : decide (t145 < 0) = true := decide_eq_true c71; clear c71; (first | rw [c71b0] | (simp only [i64_w, i32_w]; rw [c71b0]) | skip); have H' := Aside0.mk H; clear H; go_wp2; (go_meet); case rel => exact ⟨_, (true), zz6, H', ⟨by have := HJ16.out; first | omega | exact Nat.le_refl _⟩, ⟨by (with_reducible repeat (first | apply Kd.R_alloc | apply Kd.R_drewN | apply Kd.R_drew)); exact Kd.R_mono HO_8.out (fun _ hk => ⟨hk.1, ⟨hk.2.2.1, hk.2.2.2.1⟩⟩)⟩, ⟨by (with_reducible repeat (first | apply Kd.R_alloc | apply Kd.R_drewN | apply Kd.R_drew)); exact Kd.R_mono HO_9.out (fun _ hk => ⟨hk.1, ⟨hk.2.2.1, hk.2.2.2.1⟩⟩)⟩, ⟨by (with_reducible repeat (first | apply Kd.R_alloc | apply Kd.R_drewN | apply Kd.R_drew)); exact Kd.R_mono HO_13.out (fun _ hk => ⟨hk.1, ⟨hk.2.1, hk.2.2.2.1⟩⟩)⟩, ⟨by (with_reducible repeat (first | apply Kd.R_alloc | apply Kd.R_drewN | apply Kd.R_drew)); exact Kd.R_mono HO_14.out (fun _ hk => ⟨hk.1, ⟨hk.2.1, hk.2.2.2.1⟩⟩)⟩, ⟨by (with_reducible repeat (first | apply Kd.R_alloc | apply Kd.R_drewN | apply Kd.R_drew)); exact Kd.R_mono HO_122001.out (fun _ hk => trivial)⟩, ⟨by (with_reducible repeat (first | refine blk_drewN ?_ _ | refine blk_drew ?_ | refine blk_alloc ?_ _)); exact BK101.out⟩, ⟨by (with_reducible repeat (first | refine blk_drewN ?_ _ | refine blk_drew ?_ | refine blk_alloc ?_ _)); exact BK121.out⟩, ⟨by repeat (first | (with_reducible first | exact HB.out | apply below_alloc | apply pw_below_drewN | apply below_drew1 | refine below_set ?_ GE101.out | refine below_set ?_ GE121.out) | exact HB.out)⟩⟩
        rw [if_neg c71] at H; have c71b0 : decide (t145 < 0) = false := decide_eq_false c71; clear c71; (first | rw [c71b0] | (simp only [i64_w, i32_w]; rw [c71b0]) | skip); replace H := Option.bind_eq_some_iff.mp H; obtain ⟨t147, A720, H⟩ := H; replace H : (if t147 = true then ((laws_eqIntS.f kj16 t128 t113).bind fun t148 => (if t148 = true then (laws_FnExactStabilize.j1 kj16 l1 a2 t110 t113 t116 t125 t128 (t131 != t116) a0_0 l0_1) else (laws_FnExactStabilize.j1 kj16 l1 a2 t110 t113 t116 t125 t128 true a0_0 l0_1))) else (laws_FnExactStabilize.j1 kj16 l1 a2 t110 t113 t116 t125 t128 true a0_0 l0_1)) = some r := H; have A72 := Aside0.mk A720; clear A720; by_cases c73 : t147 = true; rotate_left
        · replace c73 := Bool.eq_false_iff.mpr c73; subst c73; (have H1 : (laws_FnExactStabilize.j1 kj16 l1 a2 t110 t113 t116 t125 t128 true a0_0 l0_1) = some r := by rw [if_neg (show ¬ (false = true) by decide)] at H; exact H); clear H; have H := H1; clear H1; have H' := Aside0.mk H; clear H; obtain ⟨Ao84, co84, eo84⟩ := Kd.R_slice HO_13.out; subst eo84; obtain ⟨Ao85, co85, eo85⟩ := Kd.R_slice HO_8.out; subst eo85; (go_wp2_with (first | (go_at_call 36; (with_reducible refine (laws_eqIntS.calls kj16 _ _ t125 _ _ t110 false _ ?side1 ?side2 ?side3 ?side4 A72.out).mono ?_); (case side1 => repeat (first | exact (Kd.R_reads' HO_13.out).2.2 | (with_reducible refine Kd.C_alloc ?_ _) | (with_reducible refine Kd.C_drewN ?_ _) | (with_reducible refine Kd.C_drew ?_))); (case side2 => exact (Kd.R_reads' HO_13.out).2.1); (case side3 => repeat (first | exact (Kd.R_reads' HO_8.out).2.2 | (with_reducible refine Kd.C_alloc ?_ _) | (with_reducible refine Kd.C_drewN ?_ _) | (with_reducible refine Kd.C_drew ?_))); (case side4 => exact (Kd.R_reads' HO_8.out).2.1); rintro e w' ⟨rfl, ⟨nd, rfl⟩⟩))); (go_meet); case rel => exact ⟨_, (true), zz6, H', ⟨by have := HJ16.out; first | omega | exact Nat.le_refl _⟩, ⟨by (with_reducible repeat (first | apply Kd.R_alloc | apply Kd.R_drewN | apply Kd.R_drew)); exact Kd.R_mono HO_8.out (fun _ hk => ⟨hk.1, ⟨hk.2.2.1, hk.2.2.2.1⟩⟩)⟩, ⟨by (with_reducible repeat (first | apply Kd.R_alloc | apply Kd.R_drewN | apply Kd.R_drew)); exact Kd.R_mono HO_9.out (fun _ hk => ⟨hk.1, ⟨hk.2.2.1, hk.2.2.2.1⟩⟩)⟩, ⟨by (with_reducible repeat (first | apply Kd.R_alloc | apply Kd.R_drewN | apply Kd.R_drew)); exact Kd.R_mono HO_13.out (fun _ hk => ⟨hk.1, ⟨hk.2.1, hk.2.2.2.1⟩⟩)⟩, ⟨by (with_reducible repeat (first | apply Kd.R_alloc | apply Kd.R_drewN | apply Kd.R_drew)); exact Kd.R_mono HO_14.out (fun _ hk => ⟨hk.1, ⟨hk.2.1, hk.2.2.2.1⟩⟩)⟩, ⟨by (with_reducible repeat (first | apply Kd.R_alloc | apply Kd.R_drewN | apply Kd.R_drew)); exact Kd.R_mono HO_122001.out (fun _ hk => trivial)⟩, ⟨by (with_reducible repeat (first | refine blk_drewN ?_ _ | refine blk_drew ?_ | refine blk_alloc ?_ _)); exact BK101.out⟩, ⟨by (with_reducible repeat (first | refine blk_drewN ?_ _ | refine blk_drew ?_ | refine blk_alloc ?_ _)); exact BK121.out⟩, ⟨by repeat (first | (with_reducible first | exact HB.out | apply below_alloc | apply pw_below_drewN | apply below_drew1 | refine below_set ?_ GE101.out | refine below_set ?_ GE121.out) | exact HB.out)⟩⟩
        subst c73; (have H1 : ((laws_eqIntS.f kj16 t128 t113).bind fun t148 => (if t148 = true then (laws_FnExactStabilize.j1 kj16 l1 a2 t110 t113 t116 t125 t128 (t131 != t116) a0_0 l0_1) else (laws_FnExactStabilize.j1 kj16 l1 a2 t110 t113 t116 t125 t128 true a0_0 l0_1))) = some r := by rw [if_pos rfl] at H; exact H); clear H; have H := H1; clear H1; replace H := Option.bind_eq_some_iff.mp H; obtain ⟨t148, A740, H⟩ := H; replace H : (if t148 = true then (laws_FnExactStabilize.j1 kj16 l1 a2 t110 t113 t116 t125 t128 (t131 != t116) a0_0 l0_1) else (laws_FnExactStabilize.j1 kj16 l1 a2 t110 t113 t116 t125 t128 true a0_0 l0_1)) = some r := H; have A74 := Aside0.mk A740; clear A740; by_cases c75 : t148 = true
        · subst c75; (have H1 : (laws_FnExactStabilize.j1 kj16 l1 a2 t110 t113 t116 t125 t128 (t131 != t116) a0_0 l0_1) = some r := by rw [if_pos rfl] at H; exact H); clear H; have H := H1; clear H1; have H' := Aside0.mk H; clear H; obtain ⟨Ao76, co76, eo76⟩ := Kd.R_slice HO_13.out; subst eo76; obtain ⟨Ao77, co77, eo77⟩ := Kd.R_slice HO_8.out; subst eo77; (go_wp2_with (first | (go_at_call 36; (with_reducible refine (laws_eqIntS.calls kj16 _ _ t125 _ _ t110 true _ ?side1 ?side2 ?side3 ?side4 A72.out).mono ?_); (case side1 => repeat (first | exact (Kd.R_reads' HO_13.out).2.2 | (with_reducible refine Kd.C_alloc ?_ _) | (with_reducible refine Kd.C_drewN ?_ _) | (with_reducible refine Kd.C_drew ?_))); (case side2 => exact (Kd.R_reads' HO_13.out).2.1); (case side3 => repeat (first | exact (Kd.R_reads' HO_8.out).2.2 | (with_reducible refine Kd.C_alloc ?_ _) | (with_reducible refine Kd.C_drewN ?_ _) | (with_reducible refine Kd.C_drew ?_))); (case side4 => exact (Kd.R_reads' HO_8.out).2.1); rintro e w' ⟨rfl, ⟨nd, rfl⟩⟩; obtain ⟨Ao78, co78, eo78⟩ := Kd.R_slice HO_14.out; subst eo78; obtain ⟨Ao79, co79, eo79⟩ := Kd.R_slice HO_9.out; subst eo79) | (go_at_call 36; (with_reducible refine (laws_eqIntS.calls kj16 _ _ t128 _ _ t113 true _ ?side1 ?side2 ?side3 ?side4 A74.out).mono ?_); (case side1 => repeat (first | exact (Kd.R_reads' HO_14.out).2.2 | (with_reducible refine Kd.C_alloc ?_ _) | (with_reducible refine Kd.C_drewN ?_ _) | (with_reducible refine Kd.C_drew ?_))); (case side2 => exact (Kd.R_reads' HO_14.out).2.1); (case side3 => repeat (first | exact (Kd.R_reads' HO_9.out).2.2 | (with_reducible refine Kd.C_alloc ?_ _) | (with_reducible refine Kd.C_drewN ?_ _) | (with_reducible refine Kd.C_drew ?_))); (case side4 => exact (Kd.R_reads' HO_9.out).2.1); rintro e w' ⟨rfl, ⟨nd, rfl⟩⟩))); (go_meet); case rel => exact ⟨_, ((t131 != t116)), zz6, H', ⟨by have := HJ16.out; first | omega | exact Nat.le_refl _⟩, ⟨by (with_reducible repeat (first | apply Kd.R_alloc | apply Kd.R_drewN | apply Kd.R_drew)); exact Kd.R_mono HO_8.out (fun _ hk => ⟨hk.1, ⟨hk.2.2.1, hk.2.2.2.1⟩⟩)⟩, ⟨by (with_reducible repeat (first | apply Kd.R_alloc | apply Kd.R_drewN | apply Kd.R_drew)); exact Kd.R_mono HO_9.out (fun _ hk => ⟨hk.1, ⟨hk.2.2.1, hk.2.2.2.1⟩⟩)⟩, ⟨by (with_reducible repeat (first | apply Kd.R_alloc | apply Kd.R_drewN | apply Kd.R_drew)); exact Kd.R_mono HO_13.out (fun _ hk => ⟨hk.1, ⟨hk.2.1, hk.2.2.2.1⟩⟩)⟩, ⟨by (with_reducible repeat (first | apply Kd.R_alloc | apply Kd.R_drewN | apply Kd.R_drew)); exact Kd.R_mono HO_14.out (fun _ hk => ⟨hk.1, ⟨hk.2.1, hk.2.2.2.1⟩⟩)⟩, ⟨by (with_reducible repeat (first | apply Kd.R_alloc | apply Kd.R_drewN | apply Kd.R_drew)); exact Kd.R_mono HO_122001.out (fun _ hk => trivial)⟩, ⟨by (with_reducible repeat (first | refine blk_drewN ?_ _ | refine blk_drew ?_ | refine blk_alloc ?_ _)); exact BK101.out⟩, ⟨by (with_reducible repeat (first | refine blk_drewN ?_ _ | refine blk_drew ?_ | refine blk_alloc ?_ _)); exact BK121.out⟩, ⟨by repeat (first | (with_reducible first | exact HB.out | apply below_alloc | apply pw_below_drewN | apply below_drew1 | refine below_set ?_ GE101.out | refine below_set ?_ GE121.out) | exact HB.out)⟩⟩
        replace c75 := Bool.eq_false_iff.mpr c75; subst c75; (have H1 : (laws_FnExactStabilize.j1 kj16 l1 a2 t110 t113 t116 t125 t128 true a0_0 l0_1) = some r := by rw [if_neg (show ¬ (false = true) by decide)] at H; exact H); clear H; have H := H1; clear H1; have H' := Aside0.mk H; clear H; obtain ⟨Ao80, co80, eo80⟩ := Kd.R_slice HO_13.out; subst eo80; obtain ⟨Ao81, co81, eo81⟩ := Kd.R_slice HO_8.out; subst eo81; (go_wp2_with (first | (go_at_call 36; (with_reducible refine (laws_eqIntS.calls kj16 _ _ t125 _ _ t110 true _ ?side1 ?side2 ?side3 ?side4 A72.out).mono ?_); (case side1 => repeat (first | exact (Kd.R_reads' HO_13.out).2.2 | (with_reducible refine Kd.C_alloc ?_ _) | (with_reducible refine Kd.C_drewN ?_ _) | (with_reducible refine Kd.C_drew ?_))); (case side2 => exact (Kd.R_reads' HO_13.out).2.1); (case side3 => repeat (first | exact (Kd.R_reads' HO_8.out).2.2 | (with_reducible refine Kd.C_alloc ?_ _) | (with_reducible refine Kd.C_drewN ?_ _) | (with_reducible refine Kd.C_drew ?_))); (case side4 => exact (Kd.R_reads' HO_8.out).2.1); rintro e w' ⟨rfl, ⟨nd, rfl⟩⟩; obtain ⟨Ao82, co82, eo82⟩ := Kd.R_slice HO_14.out; subst eo82; obtain ⟨Ao83, co83, eo83⟩ := Kd.R_slice HO_9.out; subst eo83) | (go_at_call 36; (with_reducible refine (laws_eqIntS.calls kj16 _ _ t128 _ _ t113 false _ ?side1 ?side2 ?side3 ?side4 A74.out).mono ?_); (case side1 => repeat (first | exact (Kd.R_reads' HO_14.out).2.2 | (with_reducible refine Kd.C_alloc ?_ _) | (with_reducible refine Kd.C_drewN ?_ _) | (with_reducible refine Kd.C_drew ?_))); (case side2 => exact (Kd.R_reads' HO_14.out).2.1); (case side3 => repeat (first | exact (Kd.R_reads' HO_9.out).2.2 | (with_reducible refine Kd.C_alloc ?_ _) | (with_reducible refine Kd.C_drewN ?_ _) | (with_reducible refine Kd.C_drew ?_))); (case side4 => exact (Kd.R_reads' HO_9.out).2.1); rintro e w' ⟨rfl, ⟨nd, rfl⟩⟩))); (go_meet); case rel => exact ⟨_, (true), zz6, H', ⟨by have := HJ16.out; first | omega | exact Nat.le_refl _⟩, ⟨by (with_reducible repeat (first | apply Kd.R_alloc | apply Kd.R_drewN | apply Kd.R_drew)); exact Kd.R_mono HO_8.out (fun _ hk => ⟨hk.1, ⟨hk.2.2.1, hk.2.2.2.1⟩⟩)⟩, ⟨by (with_reducible repeat (first | apply Kd.R_alloc | apply Kd.R_drewN | apply Kd.R_drew)); exact Kd.R_mono HO_9.out (fun _ hk => ⟨hk.1, ⟨hk.2.2.1, hk.2.2.2.1⟩⟩)⟩, ⟨by (with_reducible repeat (first | apply Kd.R_alloc | apply Kd.R_drewN | apply Kd.R_drew)); exact Kd.R_mono HO_13.out (fun _ hk => ⟨hk.1, ⟨hk.2.1, hk.2.2.2.1⟩⟩)⟩, ⟨by (with_reducible repeat (first | apply Kd.R_alloc | apply Kd.R_drewN | apply Kd.R_drew)); exact Kd.R_mono HO_14.out (fun _ hk => ⟨hk.1, ⟨hk.2.1, hk.2.2.2.1⟩⟩)⟩, ⟨by (with_reducible repeat (first | apply Kd.R_alloc | apply Kd.R_drewN | apply Kd.R_drew)); exact Kd.R_mono HO_122001.out (fun _ hk => trivial)⟩, ⟨by (with_reducible repeat (first | refine blk_drewN ?_ _ | refine blk_drew ?_ | refine blk_alloc ?_ _)); exact BK101.out⟩, ⟨by (with_reducible repeat (first | refine blk_drewN ?_ _ | refine blk_drew ?_ | refine blk_alloc ?_ _)); exact BK121.out⟩, ⟨by repeat (first | (with_reducible first | exact HB.out | apply below_alloc | apply pw_below_drewN | apply below_drew1 | refine below_set ?_ GE101.out | refine below_set ?_ GE121.out) | exact HB.out)⟩⟩
      case rest =>
        clear HC60; (try clear c1); (try clear p2); (try clear c3); (try clear c4); (try clear c4b0); (try clear c4b1); (try clear c5); (try clear c6); (try clear c7); (try clear c7b0); (try clear c17); (try clear c30); (try clear c36); (try clear c38); (try clear c39); (try clear c40); (try clear c41); (try clear c43); (try clear c44); (try clear c46); (try clear c49); (try clear c51); (try clear c54); (try clear c57); (try clear c67); (try clear c71); (try clear c71b0); (try clear c72); (try clear c73); (try clear c75); (try clear hcz19_0); (try clear hcz19_1); (try clear hcz21_0); (try clear hcz21_1); (try clear hcz27_0); (try clear hcz27_1); (try clear hcz31_0); (try clear hcz31_1); (try clear hcz34_0); (try clear hcz34_1); (try clear hcz68_0); (try clear hcz68_1); (try clear hcz9_0); (try clear hcz9_1); (try clear hfz19_0); (try clear hfz19_1); (try clear hfz21_0); (try clear hfz21_1); (try clear hfz27_0); (try clear hfz27_1); (try clear hfz31_0); (try clear hfz31_1); (try clear hfz34_0); (try clear hfz34_1); (try clear hfz68_0); (try clear hfz68_1); (try clear hfz9_0); (try clear hfz9_1); (try clear p2); obtain ⟨kq, x101_59, rfl, HA, HJ59, HO_8, HO_9, HO_13, HO_14, HO_122001, BK101, BK121, HB⟩ := hcut; have hl122001_59 := (Kd.R_reads' HO_122001.out).1; rw [hl122001_59] at HO_122001; (try simp only [hl122001_59]); (try simp only [hl122001_59] at BK101); (try simp only [hl122001_59] at BK121); (try simp only [hl122001_59] at HO_8); (try simp only [hl122001_59] at HO_9); (try simp only [hl122001_59] at HO_13); (try simp only [hl122001_59] at HO_14)
        cases kq with
        | zero => exact absurd HA.out (by simp [laws_FnExactStabilize.j1])
        | succ kj59 =>
          have H := HA.out; clear HA; simp only [laws_FnExactStabilize.j1] at H; by_cases c86 : x101_59 = true
          · subst c86; (have H1 : (none) = some r := by rw [if_pos rfl] at H; exact H); clear H; have H := H1; clear H1; exact absurd H (by simp)
          replace c86 := Bool.eq_false_iff.mpr c86; subst c86; (have H1 : ((laws_markIntS.f kj59 t125 1).bind fun bt149 => ((laws_markIntS.f kj59 t128 bt149.1).bind fun bt151 => ((laws_heldIntS.f kj59 bt149.2 1).bind fun t153 => (if t153 < 0 then (none) else ((laws_heldIntS.f kj59 bt151.2 t153).bind fun t154 => (if t154 < 0 then (none) else (if t154 = bt151.1 then ((laws_toGraph.f kj59 a0_0 l0_1).bind fun bt155 => ((laws_toIntS.f kj59 l1).bind fun t159 => ((impl_Stabilize.f kj59 bt155.1 bt155.2 t159 a2).bind fun bt162 => ((laws_eqIntS.f kj59 bt162.1 t110).bind fun t169 => (if t169 = true then ((laws_eqIntS.f kj59 bt162.2.1 t113).bind fun t170 => (if t170 = true then (laws_FnExactStabilize.j2 kj59 bt149.2 bt151.2 bt151.1 (bt162.2.2 != t116)) else (laws_FnExactStabilize.j2 kj59 bt149.2 bt151.2 bt151.1 true))) else (laws_FnExactStabilize.j2 kj59 bt149.2 bt151.2 bt151.1 true)))))) else (none)))))))) = some r := by rw [if_neg (show ¬ (false = true) by decide)] at H; exact H); clear H; have H := H1; clear H1; replace H := Option.bind_eq_some_iff.mp H; obtain ⟨⟨t149, t150⟩, A870, H⟩ := H; replace H : ((laws_markIntS.f kj59 t128 t149).bind fun bt151 => ((laws_heldIntS.f kj59 t150 1).bind fun t153 => (if t153 < 0 then (none) else ((laws_heldIntS.f kj59 bt151.2 t153).bind fun t154 => (if t154 < 0 then (none) else (if t154 = bt151.1 then ((laws_toGraph.f kj59 a0_0 l0_1).bind fun bt155 => ((laws_toIntS.f kj59 l1).bind fun t159 => ((impl_Stabilize.f kj59 bt155.1 bt155.2 t159 a2).bind fun bt162 => ((laws_eqIntS.f kj59 bt162.1 t110).bind fun t169 => (if t169 = true then ((laws_eqIntS.f kj59 bt162.2.1 t113).bind fun t170 => (if t170 = true then (laws_FnExactStabilize.j2 kj59 t150 bt151.2 bt151.1 (bt162.2.2 != t116)) else (laws_FnExactStabilize.j2 kj59 t150 bt151.2 bt151.1 true))) else (laws_FnExactStabilize.j2 kj59 t150 bt151.2 bt151.1 true)))))) else (none))))))) = some r := H; have A87 := Aside0.mk A870; clear A870; replace H := Option.bind_eq_some_iff.mp H; obtain ⟨⟨t151, t152⟩, A880, H⟩ := H; replace H : ((laws_heldIntS.f kj59 t150 1).bind fun t153 => (if t153 < 0 then (none) else ((laws_heldIntS.f kj59 t152 t153).bind fun t154 => (if t154 < 0 then (none) else (if t154 = t151 then ((laws_toGraph.f kj59 a0_0 l0_1).bind fun bt155 => ((laws_toIntS.f kj59 l1).bind fun t159 => ((impl_Stabilize.f kj59 bt155.1 bt155.2 t159 a2).bind fun bt162 => ((laws_eqIntS.f kj59 bt162.1 t110).bind fun t169 => (if t169 = true then ((laws_eqIntS.f kj59 bt162.2.1 t113).bind fun t170 => (if t170 = true then (laws_FnExactStabilize.j2 kj59 t150 t152 t151 (bt162.2.2 != t116)) else (laws_FnExactStabilize.j2 kj59 t150 t152 t151 true))) else (laws_FnExactStabilize.j2 kj59 t150 t152 t151 true)))))) else (none)))))) = some r := H; have A88 := Aside0.mk A880; clear A880; replace H := Option.bind_eq_some_iff.mp H; obtain ⟨t153, A890, H⟩ := H; replace H : (if t153 < 0 then (none) else ((laws_heldIntS.f kj59 t152 t153).bind fun t154 => (if t154 < 0 then (none) else (if t154 = t151 then ((laws_toGraph.f kj59 a0_0 l0_1).bind fun bt155 => ((laws_toIntS.f kj59 l1).bind fun t159 => ((impl_Stabilize.f kj59 bt155.1 bt155.2 t159 a2).bind fun bt162 => ((laws_eqIntS.f kj59 bt162.1 t110).bind fun t169 => (if t169 = true then ((laws_eqIntS.f kj59 bt162.2.1 t113).bind fun t170 => (if t170 = true then (laws_FnExactStabilize.j2 kj59 t150 t152 t151 (bt162.2.2 != t116)) else (laws_FnExactStabilize.j2 kj59 t150 t152 t151 true))) else (laws_FnExactStabilize.j2 kj59 t150 t152 t151 true)))))) else (none))))) = some r := H; have A89 := Aside0.mk A890; clear A890; by_cases c90 : t153 < 0
          · rw [if_pos c90] at H; exact absurd H (by simp)
          rw [if_neg c90] at H; have c90b0 : decide (t153 < 0) = false := decide_eq_false c90; clear c90; replace H := Option.bind_eq_some_iff.mp H; obtain ⟨t154, A910, H⟩ := H; replace H : (if t154 < 0 then (none) else (if t154 = t151 then ((laws_toGraph.f kj59 a0_0 l0_1).bind fun bt155 => ((laws_toIntS.f kj59 l1).bind fun t159 => ((impl_Stabilize.f kj59 bt155.1 bt155.2 t159 a2).bind fun bt162 => ((laws_eqIntS.f kj59 bt162.1 t110).bind fun t169 => (if t169 = true then ((laws_eqIntS.f kj59 bt162.2.1 t113).bind fun t170 => (if t170 = true then (laws_FnExactStabilize.j2 kj59 t150 t152 t151 (bt162.2.2 != t116)) else (laws_FnExactStabilize.j2 kj59 t150 t152 t151 true))) else (laws_FnExactStabilize.j2 kj59 t150 t152 t151 true)))))) else (none))) = some r := H; have A91 := Aside0.mk A910; clear A910; by_cases c92 : t154 < 0
          · rw [if_pos c92] at H; exact absurd H (by simp)
          rw [if_neg c92] at H; have c92b0 : decide (t154 < 0) = false := decide_eq_false c92; clear c92; by_cases c93 : t154 = t151; rotate_left
          · rw [if_neg c93] at H; exact absurd H (by simp)
          rw [if_pos c93] at H; have c93b0 : (t154 == t151) = true := beq_iff_eq.mpr c93; have c93b1 : (t154 != t151) = false := bne_eq_false_iff_eq.mpr c93; clear c93; replace H := Option.bind_eq_some_iff.mp H; obtain ⟨⟨t155, t156⟩, A940, H⟩ := H; replace H : ((laws_toIntS.f kj59 l1).bind fun t159 => ((impl_Stabilize.f kj59 t155 t156 t159 a2).bind fun bt162 => ((laws_eqIntS.f kj59 bt162.1 t110).bind fun t169 => (if t169 = true then ((laws_eqIntS.f kj59 bt162.2.1 t113).bind fun t170 => (if t170 = true then (laws_FnExactStabilize.j2 kj59 t150 t152 t151 (bt162.2.2 != t116)) else (laws_FnExactStabilize.j2 kj59 t150 t152 t151 true))) else (laws_FnExactStabilize.j2 kj59 t150 t152 t151 true))))) = some r := H; have A94 := Aside0.mk A940; clear A940; replace H := Option.bind_eq_some_iff.mp H; obtain ⟨t159, A950, H⟩ := H; replace H : ((impl_Stabilize.f kj59 t155 t156 t159 a2).bind fun bt162 => ((laws_eqIntS.f kj59 bt162.1 t110).bind fun t169 => (if t169 = true then ((laws_eqIntS.f kj59 bt162.2.1 t113).bind fun t170 => (if t170 = true then (laws_FnExactStabilize.j2 kj59 t150 t152 t151 (bt162.2.2 != t116)) else (laws_FnExactStabilize.j2 kj59 t150 t152 t151 true))) else (laws_FnExactStabilize.j2 kj59 t150 t152 t151 true)))) = some r := H; have A95 := Aside0.mk A950; clear A950; replace H := Option.bind_eq_some_iff.mp H; obtain ⟨⟨t162, t165, t168⟩, A960, H⟩ := H; replace H : ((laws_eqIntS.f kj59 t162 t110).bind fun t169 => (if t169 = true then ((laws_eqIntS.f kj59 t165 t113).bind fun t170 => (if t170 = true then (laws_FnExactStabilize.j2 kj59 t150 t152 t151 (t168 != t116)) else (laws_FnExactStabilize.j2 kj59 t150 t152 t151 true))) else (laws_FnExactStabilize.j2 kj59 t150 t152 t151 true))) = some r := H; have A96 := Aside0.mk A960; clear A960; have HC97 := Aside0.mk H; clear H; obtain ⟨Ao98, co98, eo98⟩ := Kd.R_slice HO_13.out; subst eo98; (go_upto_region 35 with (first | ((with_reducible refine gate_callee (f := 39) rfl ?_); refine goesL_ (some 104) rfl rfl Try.func39 (by kernel_rfl) rfl #[.slice Ao98 t125.length co98, .int .i64 1] rfl zz3 ?_; (with_reducible refine (laws_markIntS.calls kj59 (fun k_ => some k_ = (.slice Ao98 t125.length co98 : Value).ownBlock) (.slice Ao98 t125.length co98) t125 1 t149 t150 w _ ?side1 ?side2 A87.out).mono ?_); (case side1 => repeat (first | (with_reducible first | exact HB.out | apply below_alloc | apply pw_below_drewN | apply below_drew1 | refine below_set ?_ GE101.out | refine below_set ?_ GE121.out) | exact HB.out)); (case side2 => exact Kd.R_tight rfl HO_13.out); rintro e w99 ⟨rfl, hy0, hb, hkp⟩; refine ⟨_, rfl, ?_⟩; have n0_ := Aside0.mk (Kd.R_mono (ok' := fun k_ => some k_ ≠ (v114 : Value).ownBlock ∧ some k_ ≠ (.slice Ao98 t125.length co98 : Value).ownBlock ∧ some k_ ≠ (v129 : Value).ownBlock) (Kd.R_keptB (HO_8.out) hkp (fun k_ hk_ hs_ => (hk_.2.1) hs_)) (fun k_ hk_ => ⟨hk_.1.1, hk_.1.2.1, hk_.1.2.2⟩)); have n1_ := Aside0.mk (Kd.R_mono (ok' := fun k_ => some k_ ≠ (v111 : Value).ownBlock ∧ some k_ ≠ (.slice Ao98 t125.length co98 : Value).ownBlock ∧ some k_ ≠ (v129 : Value).ownBlock) (Kd.R_keptB (HO_9.out) hkp (fun k_ hk_ hs_ => (hk_.2.1) hs_)) (fun k_ hk_ => ⟨hk_.1.1, hk_.1.2.1, hk_.1.2.2⟩)); have n2_ := Aside0.mk (Kd.R_reok rfl hy0 (fun k_ e_ => HO_13.out.1 k_ e_)); have n3_ := Aside0.mk (Kd.R_mono (ok' := fun k_ => some k_ ≠ (v111 : Value).ownBlock ∧ some k_ ≠ (v114 : Value).ownBlock ∧ some k_ ≠ (.slice Ao98 t125.length co98 : Value).ownBlock) (Kd.R_keptB (HO_14.out) hkp (fun k_ hk_ hs_ => (hk_.2.2) hs_)) (fun k_ hk_ => ⟨hk_.1.1, hk_.1.2.1, hk_.1.2.2⟩)); have n4_ := Aside0.mk (Kd.R_mono (ok' := fun k_ => True) (Kd.R_keptB ((Kd.R_apart' HO_122001.out (Kd.R_typed HO_13.out) (by decide))) hkp (fun k_ hk_ hs_ => (hk_.2) hs_)) (fun k_ hk_ => trivial)); have n5_ := Aside0.mk (blk_kept zz2 hkp (fun hs_ => (fun e_ => (Kd.R_ne HO_13.out BK101.out (by decide)) e_) hs_)); have n6_ := Aside0.mk (blk_kept zz17 hkp (fun hs_ => (fun e_ => (Kd.R_ne HO_13.out BK121.out (by decide)) e_) hs_)); have n7_ := Aside0.mk (hb); clear HO_8; clear HO_9; clear HO_13; clear HO_14; clear HO_122001; clear BK101; clear BK121; clear HB; have HO_8 := n0_; have HO_9 := n1_; have HO_13 := n2_; have HO_14 := n3_; have HO_122001 := n4_; have BK101 := n5_; have BK121 := n6_; have HB := n7_; clear n0_ n1_ n2_ n3_ n4_ n5_ n6_ n7_; (try clear hb); (try clear hkp); (try clear hy0); obtain ⟨Ao100, co100, eo100⟩ := Kd.R_slice HO_14.out; subst eo100) | ((with_reducible refine gate_callee (f := 39) rfl ?_); refine goesL_ (some 107) rfl rfl Try.func39 (by kernel_rfl) rfl #[.slice Ao100 t128.length co100, .int .i64 t149] rfl zz3 ?_; (with_reducible refine (laws_markIntS.calls kj59 (fun k_ => some k_ = (.slice Ao100 t128.length co100 : Value).ownBlock) (.slice Ao100 t128.length co100) t128 t149 t151 t152 w _ ?side1 ?side2 A88.out).mono ?_); (case side1 => repeat (first | (with_reducible first | exact HB.out | apply below_alloc | apply pw_below_drewN | apply below_drew1 | refine below_set ?_ GE101.out | refine below_set ?_ GE121.out) | exact HB.out)); (case side2 => exact Kd.R_tight rfl HO_14.out); rintro e w101 ⟨rfl, hy0, hb, hkp⟩; refine ⟨_, rfl, ?_⟩; have n0_ := Aside0.mk (Kd.R_mono (ok' := fun k_ => some k_ ≠ (v114 : Value).ownBlock ∧ some k_ ≠ (.slice Ao98 t125.length co98 : Value).ownBlock ∧ some k_ ≠ (.slice Ao100 t128.length co100 : Value).ownBlock) (Kd.R_keptB (HO_8.out) hkp (fun k_ hk_ hs_ => (hk_.2.2) hs_)) (fun k_ hk_ => ⟨hk_.1.1, hk_.1.2.1, hk_.1.2.2⟩)); have n1_ := Aside0.mk (Kd.R_mono (ok' := fun k_ => some k_ ≠ (v111 : Value).ownBlock ∧ some k_ ≠ (.slice Ao98 t125.length co98 : Value).ownBlock ∧ some k_ ≠ (.slice Ao100 t128.length co100 : Value).ownBlock) (Kd.R_keptB (HO_9.out) hkp (fun k_ hk_ hs_ => (hk_.2.2) hs_)) (fun k_ hk_ => ⟨hk_.1.1, hk_.1.2.1, hk_.1.2.2⟩)); have n2_ := Aside0.mk (Kd.R_mono (ok' := fun k_ => some k_ ≠ (v111 : Value).ownBlock ∧ some k_ ≠ (v114 : Value).ownBlock ∧ some k_ ≠ (.slice Ao100 t128.length co100 : Value).ownBlock) (Kd.R_keptB (HO_13.out) hkp (fun k_ hk_ hs_ => (hk_.2.2) hs_)) (fun k_ hk_ => ⟨hk_.1.1, hk_.1.2.1, hk_.1.2.2⟩)); have n3_ := Aside0.mk (Kd.R_reok rfl hy0 (fun k_ e_ => HO_14.out.1 k_ e_)); have n4_ := Aside0.mk (Kd.R_mono (ok' := fun k_ => True) (Kd.R_keptB ((Kd.R_apart' HO_122001.out (Kd.R_typed HO_14.out) (by decide))) hkp (fun k_ hk_ hs_ => (hk_.2) hs_)) (fun k_ hk_ => trivial)); have n5_ := Aside0.mk (blk_kept zz2 hkp (fun hs_ => (fun e_ => (Kd.R_ne HO_14.out BK101.out (by decide)) e_) hs_)); have n6_ := Aside0.mk (blk_kept zz17 hkp (fun hs_ => (fun e_ => (Kd.R_ne HO_14.out BK121.out (by decide)) e_) hs_)); have n7_ := Aside0.mk (hb); clear HO_8; clear HO_9; clear HO_13; clear HO_14; clear HO_122001; clear BK101; clear BK121; clear HB; have HO_8 := n0_; have HO_9 := n1_; have HO_13 := n2_; have HO_14 := n3_; have HO_122001 := n4_; have BK101 := n5_; have BK121 := n6_; have HB := n7_; clear n0_ n1_ n2_ n3_ n4_ n5_ n6_ n7_; (try clear hb); (try clear hkp); (try clear hy0)) | ((with_reducible refine gate_callee (f := 40) rfl ?_); refine goesL_ (some 110) rfl rfl Try.func40 (by kernel_rfl) rfl #[.slice Ao98 t150.length co98, .int .i64 1] rfl (by (try simp only [List.map_toArray, List.map_cons, List.map_nil]); first | done | (rw [show t150.length = t125.length from (Kd.R_reads' HO_13.out).1.symm] <;> rfl) | rfl | (simp only [List.length_drop, List.length_take]; rfl)) ?_; (with_reducible refine (laws_heldIntS.calls kj59 _ _ t150 1 t153 _ ?side1 ?side2 A89.out).mono ?_); (case side1 => repeat (first | exact (Kd.R_reads' HO_13.out).2.2 | (with_reducible refine Kd.C_alloc ?_ _) | (with_reducible refine Kd.C_drewN ?_ _) | (with_reducible refine Kd.C_drew ?_))); (case side2 => rw [show t150.length = t125.length from (Kd.R_reads' HO_13.out).1.symm]; exact (Kd.R_reads' HO_13.out).2.1); rintro e w' ⟨rfl, ⟨nd, rfl⟩⟩; refine ⟨_, rfl, ?_⟩) | ((with_reducible refine gate_callee (f := 40) rfl ?_); refine goesL_ (some 115) rfl rfl Try.func40 (by kernel_rfl) rfl #[.slice Ao100 t152.length co100, .int .i64 t153] rfl (by (try simp only [List.map_toArray, List.map_cons, List.map_nil]); first | done | (rw [show t152.length = t128.length from (Kd.R_reads' HO_14.out).1.symm] <;> rfl) | rfl | (simp only [List.length_drop, List.length_take]; rfl)) ?_; (with_reducible refine (laws_heldIntS.calls kj59 _ _ t152 t153 t154 _ ?side1 ?side2 A91.out).mono ?_); (case side1 => repeat (first | exact (Kd.R_reads' HO_14.out).2.2 | (with_reducible refine Kd.C_alloc ?_ _) | (with_reducible refine Kd.C_drewN ?_ _) | (with_reducible refine Kd.C_drew ?_))); (case side2 => rw [show t152.length = t128.length from (Kd.R_reads' HO_14.out).1.symm]; exact (Kd.R_reads' HO_14.out).2.1); rintro e w' ⟨rfl, ⟨nd, rfl⟩⟩; refine ⟨_, rfl, ?_⟩; have hnb102 := NB101_121.out; have hnc102 := NB121_101.out; have hcz103_0 : w101.cell? ⟨gb101, 0, none⟩ = some (.int .i64 a0_0) := (blk_cell BK101.out 0).trans rfl; have hcz103_1 : w101.cell? ⟨gb101, 1, none⟩ = some (.slice A0_1 l0_1.length c0_1) := (blk_cell BK101.out 1).trans rfl; have hfz103_0 := blk_frozen BK101.out 0; have hfz103_1 := blk_frozen BK101.out 1) | ((with_reducible refine gate_callee (f := 43) rfl ?_); refine goesL_ (some 123) rfl rfl Try.func43 (by kernel_rfl) rfl #[.agg #[.int .i64 a0_0, .slice A0_1 l0_1.length c0_1]] rfl zz3 ?_; (with_reducible refine (laws_toGraph.calls kj59 a0_0 _ _ l0_1 t155 t156 _ ?side1 ?side2 A94.out).mono ?_); (case side1 => repeat (first | exact (Kd.C_below HR0_1.out zz8) | (with_reducible refine Kd.C_alloc ?_ _) | (with_reducible refine Kd.C_drewN ?_ _) | (with_reducible refine Kd.C_drew ?_))); (case side2 => exact HC0_1.out); rintro e w104 ⟨v157, rfl, ho0, hb⟩; refine ⟨_, rfl, ?_⟩; have n0_ := Aside0.mk (Kd.R_below zz14 hb); have n1_ := Aside0.mk (Kd.R_below zz15 hb); have n2_ := Aside0.mk (Kd.R_below zz18 hb); have n3_ := Aside0.mk (Kd.R_below zz19 hb); have n4_ := Aside0.mk (Kd.R_elder' zz21 (Kd.R_base ho0) hb); have n5_ := Aside0.mk (Kd.R_lower (Kd.R_new' ho0 (Kd.R_lt zz21)) (below_size zz8)); have n6_ := Aside0.mk (blk_below (g := gb101) (o := .cells #[.int .i64 a0_0, .slice A0_1 l0_1.length c0_1] 33 (0, 0)) zz2 hb); have n7_ := Aside0.mk (blk_below (g := gb121) (o := .cells #[.int .i64 t117, .slice Ao32 t144.length co32] 38 (0, 0)) zz17 hb); have n8_ := Aside0.mk (below_step zz8 hb); clear HO_8; clear HO_9; clear HO_13; clear HO_14; clear HO_122001; clear BK101; clear BK121; clear HB; have HO_8 := n0_; have HO_9 := n1_; have HO_13 := n2_; have HO_14 := n3_; have HO_122001 := n4_; have HO158 := n5_; have BK101 := n6_; have BK121 := n7_; have HB := n8_; clear n0_ n1_ n2_ n3_ n4_ n5_ n6_ n7_ n8_; (try clear hb); (try clear hb2); (try clear hk); (try clear hi); (try clear ho0)) | ((with_reducible refine gate_callee (f := 44) rfl ?_); refine goesL_ (some 125) rfl rfl Try.func44 (by kernel_rfl) rfl #[.slice A1 l1.length c1] rfl zz3 ?_; (with_reducible refine (laws_toIntS.calls kj59 _ _ l1 t159 _ ?side1 ?side2 A95.out).mono ?_); (case side1 => repeat (first | exact (Kd.C_below HR1.out HB.out) | (with_reducible refine Kd.C_alloc ?_ _) | (with_reducible refine Kd.C_drewN ?_ _) | (with_reducible refine Kd.C_drew ?_))); (case side2 => exact HC1.out); rintro e w105 ⟨v160, rfl, ho0, hb⟩; refine ⟨_, rfl, ?_⟩; have n0_ := Aside0.mk (Kd.R_elder' zz14 (Kd.R_base ho0) hb); have n1_ := Aside0.mk (Kd.R_elder' zz15 (Kd.R_base ho0) hb); have n2_ := Aside0.mk (Kd.R_elder' zz18 (Kd.R_base ho0) hb); have n3_ := Aside0.mk (Kd.R_elder' zz19 (Kd.R_base ho0) hb); have n4_ := Aside0.mk (Kd.R_below zz21 hb); have n5_ := Aside0.mk (Kd.R_below (by (with_reducible repeat (first | apply Kd.R_alloc | apply Kd.R_drewN | apply Kd.R_drew)); exact HO158.out) hb); have n6_ := Aside0.mk (Kd.R_lower (Kd.R_new' (Kd.R_new' (Kd.R_new' (Kd.R_new' ho0 (Kd.R_lt zz14)) (Kd.R_lt zz15)) (Kd.R_lt zz18)) (Kd.R_lt zz19)) (below_size zz8)); have n7_ := Aside0.mk (blk_below (g := gb101) (o := .cells #[.int .i64 a0_0, .slice A0_1 l0_1.length c0_1] 33 (0, 0)) zz2 hb); have n8_ := Aside0.mk (blk_below (g := gb121) (o := .cells #[.int .i64 t117, .slice Ao32 t144.length co32] 38 (0, 0)) zz17 hb); have n9_ := Aside0.mk (below_step zz8 hb); clear HO_8; clear HO_9; clear HO_13; clear HO_14; clear HO_122001; clear HO158; clear BK101; clear BK121; clear HB; have HO_8 := n0_; have HO_9 := n1_; have HO_13 := n2_; have HO_14 := n3_; have HO_122001 := n4_; have HO158 := n5_; have HO161 := n6_; have BK101 := n7_; have BK121 := n8_; have HB := n9_; clear n0_ n1_ n2_ n3_ n4_ n5_ n6_ n7_ n8_ n9_; (try clear hb); (try clear hb2); (try clear hk); (try clear hi); (try clear ho0); obtain ⟨Ao106, co106, eo106⟩ := Kd.R_slice HO158.out; subst eo106; obtain ⟨Ao107, co107, eo107⟩ := Kd.R_slice HO161.out; subst eo107) | ((with_reducible refine gate_callee (f := 73) rfl ?_); refine goesL_ (some 127) rfl rfl Try.func73 (by kernel_rfl) rfl #[.agg #[.int .i64 t155, .slice Ao106 t156.length co106], .slice Ao107 t159.length co107, .int .i64 a2] rfl zz3 ?_; (with_reducible refine (impl_Stabilize.calls kj59 t155 _ _ t156 _ _ t159 a2 t162 t165 t168 _ ?side1 ?side2 ?side3 ?side4 A96.out).mono ?_); (case side1 => repeat (first | exact (Kd.R_reads' HO158.out).2.2 | (with_reducible refine Kd.C_alloc ?_ _) | (with_reducible refine Kd.C_drewN ?_ _) | (with_reducible refine Kd.C_drew ?_))); (case side2 => exact (Kd.R_reads' HO158.out).2.1); (case side3 => repeat (first | exact (Kd.R_reads' HO161.out).2.2 | (with_reducible refine Kd.C_alloc ?_ _) | (with_reducible refine Kd.C_drewN ?_ _) | (with_reducible refine Kd.C_drew ?_))); (case side4 => exact (Kd.R_reads' HO161.out).2.1); rintro e w108 ⟨v163, v166, rfl, ho0, ho1, hb⟩; refine ⟨_, rfl, ?_⟩; have n0_ := Aside0.mk (Kd.R_mono (Kd.R_told (Kd.R_told (Kd.R_old zz14 hb) (Kd.R_base ho0)) (Kd.R_base ho1)) (fun _ h_ => h_.1)); have n1_ := Aside0.mk (Kd.R_mono (Kd.R_told (Kd.R_told (Kd.R_old zz15 hb) (Kd.R_base ho0)) (Kd.R_base ho1)) (fun _ h_ => h_.1)); have n2_ := Aside0.mk (Kd.R_mono (Kd.R_told (Kd.R_told (Kd.R_old zz18 hb) (Kd.R_base ho0)) (Kd.R_base ho1)) (fun _ h_ => h_.1)); have n3_ := Aside0.mk (Kd.R_mono (Kd.R_told (Kd.R_told (Kd.R_old zz19 hb) (Kd.R_base ho0)) (Kd.R_base ho1)) (fun _ h_ => h_.1)); have n4_ := Aside0.mk (Kd.R_below zz21 hb); have n5_ := Aside0.mk (Kd.R_below (by (with_reducible repeat (first | apply Kd.R_alloc | apply Kd.R_drewN | apply Kd.R_drew)); exact HO158.out) hb); have n6_ := Aside0.mk (Kd.R_mono (Kd.R_told (Kd.R_told (Kd.R_old (by (with_reducible repeat (first | apply Kd.R_alloc | apply Kd.R_drewN | apply Kd.R_drew)); exact HO161.out) hb) (Kd.R_base ho0)) (Kd.R_base ho1)) (fun _ h_ => h_.1)); have n7_ := Aside0.mk (Kd.R_lower (Kd.R_new' (Kd.R_new' (Kd.R_new' (Kd.R_new' (Kd.R_new' ho0 (Kd.R_lt zz14)) (Kd.R_lt zz15)) (Kd.R_lt zz18)) (Kd.R_lt zz19)) (Kd.R_lt (by (with_reducible repeat (first | apply Kd.R_alloc | apply Kd.R_drewN | apply Kd.R_drew)); exact HO161.out))) (below_size zz8)); have n8_ := Aside0.mk (Kd.R_lower (Kd.R_new' (Kd.R_new' (Kd.R_new' (Kd.R_new' (Kd.R_new' ho1 (Kd.R_lt zz14)) (Kd.R_lt zz15)) (Kd.R_lt zz18)) (Kd.R_lt zz19)) (Kd.R_lt (by (with_reducible repeat (first | apply Kd.R_alloc | apply Kd.R_drewN | apply Kd.R_drew)); exact HO161.out))) (below_size zz8)); have n9_ := Aside0.mk (blk_below (g := gb101) (o := .cells #[.int .i64 a0_0, .slice A0_1 l0_1.length c0_1] 33 (0, 0)) zz2 hb); have n10_ := Aside0.mk (blk_below (g := gb121) (o := .cells #[.int .i64 t117, .slice Ao32 t144.length co32] 38 (0, 0)) zz17 hb); have n11_ := Aside0.mk (below_step zz8 hb); clear HO_8; clear HO_9; clear HO_13; clear HO_14; clear HO_122001; clear HO158; clear HO161; clear BK101; clear BK121; clear HB; have HO_8 := n0_; have HO_9 := n1_; have HO_13 := n2_; have HO_14 := n3_; have HO_122001 := n4_; have HO158 := n5_; have HO161 := n6_; have HO164 := n7_; have HO167 := n8_; have BK101 := n9_; have BK121 := n10_; have HB := n11_; clear n0_ n1_ n2_ n3_ n4_ n5_ n6_ n7_ n8_ n9_ n10_ n11_; (try clear hb); (try clear hb2); (try clear hk); (try clear hi); (try clear ho0); (try clear ho1)))); (try simp only [Act.put, List.setIfInBounds_toArray, List.set_cons_zero, List.set_cons_succ]); go_cut [145] (fun v145 wc => ∃ (kq : Nat) (x145_96 : Bool), v145 = .bool x145_96 ∧ Aside0 (laws_FnExactStabilize.j2 kq t150 t152 t151 x145_96 = some r) ∧ Aside0 (kq ≤ kj59) ∧ Aside0 (Kd.R (Kd.int .i64) 3 wc w.heap.size (fun k_ => some k_ ≠ ((.slice Ao100 t128.length co100) : Value).ownBlock) (.slice Ao98 t125.length co98) t150) ∧ Aside0 (Kd.R (Kd.int .i64) 3 wc w.heap.size (fun k_ => some k_ ≠ ((.slice Ao98 t125.length co98) : Value).ownBlock) (.slice Ao100 t128.length co100) t152) ∧ Aside0 (Kd.R k70 70 wc w.heap.size (fun _ => True) (.slice Ao32 t144.length co32) t144) ∧ Aside0 (wc.heap[gb101]? = some (.cells #[.int .i64 a0_0, (.slice A0_1 l0_1.length c0_1)] 33 (0, 0))) ∧ Aside0 (wc.heap[gb121]? = some (.cells #[.int .i64 t117, (.slice Ao32 t144.length co32)] 38 (0, 0))) ∧ Aside0 (Below w.heap.size w wc))
          case first =>
            have H := HC97.out; clear HC97; replace H := Option.bind_eq_some_iff.mp H; obtain ⟨t169, A1090, H⟩ := H; replace H : (if t169 = true then ((laws_eqIntS.f kj59 t165 t113).bind fun t170 => (if t170 = true then (laws_FnExactStabilize.j2 kj59 t150 t152 t151 (t168 != t116)) else (laws_FnExactStabilize.j2 kj59 t150 t152 t151 true))) else (laws_FnExactStabilize.j2 kj59 t150 t152 t151 true)) = some r := H; have A109 := Aside0.mk A1090; clear A1090; by_cases c110 : t169 = true; rotate_left
            · replace c110 := Bool.eq_false_iff.mpr c110; subst c110; (have H1 : (laws_FnExactStabilize.j2 kj59 t150 t152 t151 true) = some r := by rw [if_neg (show ¬ (false = true) by decide)] at H; exact H); clear H; have H := H1; clear H1; have H' := Aside0.mk H; clear H; obtain ⟨Ao121, co121, eo121⟩ := Kd.R_slice HO164.out; subst eo121; obtain ⟨Ao122, co122, eo122⟩ := Kd.R_slice HO_8.out; subst eo122; (go_wp2_with (first | ((with_reducible refine gate_callee (f := 36) rfl ?_); refine goesL_ (some 133) rfl rfl Try.func36 (by kernel_rfl) rfl #[.slice Ao121 t162.length co121, .slice Ao122 t110.length co122] rfl zz3 ?_; (with_reducible refine (laws_eqIntS.calls kj59 _ _ t162 _ _ t110 false _ ?side1 ?side2 ?side3 ?side4 A109.out).mono ?_); (case side1 => repeat (first | exact (Kd.R_reads' HO164.out).2.2 | (with_reducible refine Kd.C_alloc ?_ _) | (with_reducible refine Kd.C_drewN ?_ _) | (with_reducible refine Kd.C_drew ?_))); (case side2 => exact (Kd.R_reads' HO164.out).2.1); (case side3 => repeat (first | exact (Kd.R_reads' HO_8.out).2.2 | (with_reducible refine Kd.C_alloc ?_ _) | (with_reducible refine Kd.C_drewN ?_ _) | (with_reducible refine Kd.C_drew ?_))); (case side4 => exact (Kd.R_reads' HO_8.out).2.1); rintro e w' ⟨rfl, ⟨nd, rfl⟩⟩; refine ⟨_, rfl, ?_⟩))); (go_meet); case rel => exact ⟨_, (true), zz6, H', ⟨by have := HJ16.out; have := HJ59.out; first | omega | exact Nat.le_refl _⟩, ⟨by (try simp only [hl122001_59]); (with_reducible repeat (first | apply Kd.R_alloc | apply Kd.R_drewN | apply Kd.R_drew)); exact Kd.R_mono HO_13.out (fun _ hk => hk.1.1.1.2.2)⟩, ⟨by (try simp only [hl122001_59]); (with_reducible repeat (first | apply Kd.R_alloc | apply Kd.R_drewN | apply Kd.R_drew)); exact Kd.R_mono HO_14.out (fun _ hk => hk.1.1.1.2.2)⟩, ⟨by (try simp only [hl122001_59]); (with_reducible repeat (first | apply Kd.R_alloc | apply Kd.R_drewN | apply Kd.R_drew)); exact Kd.R_mono HO_122001.out (fun _ hk => trivial)⟩, ⟨by (try simp only [hl122001_59]); (with_reducible repeat (first | refine blk_drewN ?_ _ | refine blk_drew ?_ | refine blk_alloc ?_ _)); exact BK101.out⟩, ⟨by (try simp only [hl122001_59]); (with_reducible repeat (first | refine blk_drewN ?_ _ | refine blk_drew ?_ | refine blk_alloc ?_ _)); exact BK121.out⟩, ⟨by repeat (first | (with_reducible first | exact HB.out | apply below_alloc | apply pw_below_drewN | apply below_drew1 | refine below_set ?_ GE101.out | refine below_set ?_ GE121.out) | exact HB.out)⟩⟩
            subst c110; (have H1 : ((laws_eqIntS.f kj59 t165 t113).bind fun t170 => (if t170 = true then (laws_FnExactStabilize.j2 kj59 t150 t152 t151 (t168 != t116)) else (laws_FnExactStabilize.j2 kj59 t150 t152 t151 true))) = some r := by rw [if_pos rfl] at H; exact H); clear H; have H := H1; clear H1; replace H := Option.bind_eq_some_iff.mp H; obtain ⟨t170, A1110, H⟩ := H; replace H : (if t170 = true then (laws_FnExactStabilize.j2 kj59 t150 t152 t151 (t168 != t116)) else (laws_FnExactStabilize.j2 kj59 t150 t152 t151 true)) = some r := H; have A111 := Aside0.mk A1110; clear A1110; by_cases c112 : t170 = true
            · subst c112; (have H1 : (laws_FnExactStabilize.j2 kj59 t150 t152 t151 (t168 != t116)) = some r := by rw [if_pos rfl] at H; exact H); clear H; have H := H1; clear H1; have H' := Aside0.mk H; clear H; obtain ⟨Ao113, co113, eo113⟩ := Kd.R_slice HO164.out; subst eo113; obtain ⟨Ao114, co114, eo114⟩ := Kd.R_slice HO_8.out; subst eo114; (go_wp2_with (first | ((with_reducible refine gate_callee (f := 36) rfl ?_); refine goesL_ (some 133) rfl rfl Try.func36 (by kernel_rfl) rfl #[.slice Ao113 t162.length co113, .slice Ao114 t110.length co114] rfl zz3 ?_; (with_reducible refine (laws_eqIntS.calls kj59 _ _ t162 _ _ t110 true _ ?side1 ?side2 ?side3 ?side4 A109.out).mono ?_); (case side1 => repeat (first | exact (Kd.R_reads' HO164.out).2.2 | (with_reducible refine Kd.C_alloc ?_ _) | (with_reducible refine Kd.C_drewN ?_ _) | (with_reducible refine Kd.C_drew ?_))); (case side2 => exact (Kd.R_reads' HO164.out).2.1); (case side3 => repeat (first | exact (Kd.R_reads' HO_8.out).2.2 | (with_reducible refine Kd.C_alloc ?_ _) | (with_reducible refine Kd.C_drewN ?_ _) | (with_reducible refine Kd.C_drew ?_))); (case side4 => exact (Kd.R_reads' HO_8.out).2.1); rintro e w' ⟨rfl, ⟨nd, rfl⟩⟩; refine ⟨_, rfl, ?_⟩; obtain ⟨Ao115, co115, eo115⟩ := Kd.R_slice HO167.out; subst eo115; obtain ⟨Ao116, co116, eo116⟩ := Kd.R_slice HO_9.out; subst eo116) | (go_at_call 36; (with_reducible refine (laws_eqIntS.calls kj59 _ _ t165 _ _ t113 true _ ?side1 ?side2 ?side3 ?side4 A111.out).mono ?_); (case side1 => repeat (first | exact (Kd.R_reads' HO167.out).2.2 | (with_reducible refine Kd.C_alloc ?_ _) | (with_reducible refine Kd.C_drewN ?_ _) | (with_reducible refine Kd.C_drew ?_))); (case side2 => exact (Kd.R_reads' HO167.out).2.1); (case side3 => repeat (first | exact (Kd.R_reads' HO_9.out).2.2 | (with_reducible refine Kd.C_alloc ?_ _) | (with_reducible refine Kd.C_drewN ?_ _) | (with_reducible refine Kd.C_drew ?_))); (case side4 => exact (Kd.R_reads' HO_9.out).2.1); rintro e w' ⟨rfl, ⟨nd, rfl⟩⟩))); (go_meet); case rel => exact ⟨_, ((t168 != t116)), zz6, H', ⟨by have := HJ16.out; have := HJ59.out; first | omega | exact Nat.le_refl _⟩, ⟨by (try simp only [hl122001_59]); (with_reducible repeat (first | apply Kd.R_alloc | apply Kd.R_drewN | apply Kd.R_drew)); exact Kd.R_mono HO_13.out (fun _ hk => hk.1.1.1.2.2)⟩, ⟨by (try simp only [hl122001_59]); (with_reducible repeat (first | apply Kd.R_alloc | apply Kd.R_drewN | apply Kd.R_drew)); exact Kd.R_mono HO_14.out (fun _ hk => hk.1.1.1.2.2)⟩, ⟨by (try simp only [hl122001_59]); (with_reducible repeat (first | apply Kd.R_alloc | apply Kd.R_drewN | apply Kd.R_drew)); exact Kd.R_mono HO_122001.out (fun _ hk => trivial)⟩, ⟨by (try simp only [hl122001_59]); (with_reducible repeat (first | refine blk_drewN ?_ _ | refine blk_drew ?_ | refine blk_alloc ?_ _)); exact BK101.out⟩, ⟨by (try simp only [hl122001_59]); (with_reducible repeat (first | refine blk_drewN ?_ _ | refine blk_drew ?_ | refine blk_alloc ?_ _)); exact BK121.out⟩, ⟨by repeat (first | (with_reducible first | exact HB.out | apply below_alloc | apply pw_below_drewN | apply below_drew1 | refine below_set ?_ GE101.out | refine below_set ?_ GE121.out) | exact HB.out)⟩⟩
            replace c112 := Bool.eq_false_iff.mpr c112; subst c112; (have H1 : (laws_FnExactStabilize.j2 kj59 t150 t152 t151 true) = some r := by rw [if_neg (show ¬ (false = true) by decide)] at H; exact H); clear H; have H := H1; clear H1; have H' := Aside0.mk H; clear H; obtain ⟨Ao117, co117, eo117⟩ := Kd.R_slice HO164.out; subst eo117; obtain ⟨Ao118, co118, eo118⟩ := Kd.R_slice HO_8.out; subst eo118; (go_wp2_with (first | ((with_reducible refine gate_callee (f := 36) rfl ?_); refine goesL_ (some 133) rfl rfl Try.func36 (by kernel_rfl) rfl #[.slice Ao117 t162.length co117, .slice Ao118 t110.length co118] rfl zz3 ?_; (with_reducible refine (laws_eqIntS.calls kj59 _ _ t162 _ _ t110 true _ ?side1 ?side2 ?side3 ?side4 A109.out).mono ?_); (case side1 => repeat (first | exact (Kd.R_reads' HO164.out).2.2 | (with_reducible refine Kd.C_alloc ?_ _) | (with_reducible refine Kd.C_drewN ?_ _) | (with_reducible refine Kd.C_drew ?_))); (case side2 => exact (Kd.R_reads' HO164.out).2.1); (case side3 => repeat (first | exact (Kd.R_reads' HO_8.out).2.2 | (with_reducible refine Kd.C_alloc ?_ _) | (with_reducible refine Kd.C_drewN ?_ _) | (with_reducible refine Kd.C_drew ?_))); (case side4 => exact (Kd.R_reads' HO_8.out).2.1); rintro e w' ⟨rfl, ⟨nd, rfl⟩⟩; refine ⟨_, rfl, ?_⟩; obtain ⟨Ao119, co119, eo119⟩ := Kd.R_slice HO167.out; subst eo119; obtain ⟨Ao120, co120, eo120⟩ := Kd.R_slice HO_9.out; subst eo120) | (go_at_call 36; (with_reducible refine (laws_eqIntS.calls kj59 _ _ t165 _ _ t113 false _ ?side1 ?side2 ?side3 ?side4 A111.out).mono ?_); (case side1 => repeat (first | exact (Kd.R_reads' HO167.out).2.2 | (with_reducible refine Kd.C_alloc ?_ _) | (with_reducible refine Kd.C_drewN ?_ _) | (with_reducible refine Kd.C_drew ?_))); (case side2 => exact (Kd.R_reads' HO167.out).2.1); (case side3 => repeat (first | exact (Kd.R_reads' HO_9.out).2.2 | (with_reducible refine Kd.C_alloc ?_ _) | (with_reducible refine Kd.C_drewN ?_ _) | (with_reducible refine Kd.C_drew ?_))); (case side4 => exact (Kd.R_reads' HO_9.out).2.1); rintro e w' ⟨rfl, ⟨nd, rfl⟩⟩))); (go_meet); case rel => exact ⟨_, (true), zz6, H', ⟨by have := HJ16.out; have := HJ59.out; first | omega | exact Nat.le_refl _⟩, ⟨by (try simp only [hl122001_59]); (with_reducible repeat (first | apply Kd.R_alloc | apply Kd.R_drewN | apply Kd.R_drew)); exact Kd.R_mono HO_13.out (fun _ hk => hk.1.1.1.2.2)⟩, ⟨by (try simp only [hl122001_59]); (with_reducible repeat (first | apply Kd.R_alloc | apply Kd.R_drewN | apply Kd.R_drew)); exact Kd.R_mono HO_14.out (fun _ hk => hk.1.1.1.2.2)⟩, ⟨by (try simp only [hl122001_59]); (with_reducible repeat (first | apply Kd.R_alloc | apply Kd.R_drewN | apply Kd.R_drew)); exact Kd.R_mono HO_122001.out (fun _ hk => trivial)⟩, ⟨by (try simp only [hl122001_59]); (with_reducible repeat (first | refine blk_drewN ?_ _ | refine blk_drew ?_ | refine blk_alloc ?_ _)); exact BK101.out⟩, ⟨by (try simp only [hl122001_59]); (with_reducible repeat (first | refine blk_drewN ?_ _ | refine blk_drew ?_ | refine blk_alloc ?_ _)); exact BK121.out⟩, ⟨by repeat (first | (with_reducible first | exact HB.out | apply below_alloc | apply pw_below_drewN | apply below_drew1 | refine below_set ?_ GE101.out | refine below_set ?_ GE121.out) | exact HB.out)⟩⟩
          case rest =>
            clear HC97; (try clear c1); (try clear p2); (try clear c3); (try clear c4); (try clear c4b0); (try clear c4b1); (try clear c5); (try clear c6); (try clear c7); (try clear c7b0); (try clear c8); (try clear c9); (try clear c10); (try clear c11); (try clear c17); (try clear c30); (try clear c36); (try clear c38); (try clear c39); (try clear c40); (try clear c41); (try clear c43); (try clear c44); (try clear c46); (try clear c49); (try clear c51); (try clear c54); (try clear c57); (try clear c67); (try clear c71); (try clear c71b0); (try clear c72); (try clear c73); (try clear c75); (try clear c86); (try clear c90); (try clear c90b0); (try clear c92); (try clear c92b0); (try clear c93); (try clear c93b0); (try clear c93b1); (try clear c102); (try clear c110); (try clear c112); (try clear hcz103_0); (try clear hcz103_1); (try clear hcz19_0); (try clear hcz19_1); (try clear hcz21_0); (try clear hcz21_1); (try clear hcz27_0); (try clear hcz27_1); (try clear hcz31_0); (try clear hcz31_1); (try clear hcz34_0); (try clear hcz34_1); (try clear hcz68_0); (try clear hcz68_1); (try clear hcz9_0); (try clear hcz9_1); (try clear hfz103_0); (try clear hfz103_1); (try clear hfz19_0); (try clear hfz19_1); (try clear hfz21_0); (try clear hfz21_1); (try clear hfz27_0); (try clear hfz27_1); (try clear hfz31_0); (try clear hfz31_1); (try clear hfz34_0); (try clear hfz34_1); (try clear hfz68_0); (try clear hfz68_1); (try clear hfz9_0); (try clear hfz9_1); (try clear p2); obtain ⟨kq, x145_96, rfl, HA, HJ96, HO_13, HO_14, HO_122001, BK101, BK121, HB⟩ := hcut; have hl13_96 := (Kd.R_reads' HO_13.out).1; rw [hl13_96] at HO_13; (try simp only [hl13_96]); (try simp only [hl13_96] at BK101); (try simp only [hl13_96] at BK121); (try simp only [hl13_96] at HO_14); (try simp only [hl13_96] at HO_122001); have hl14_96 := (Kd.R_reads' HO_14.out).1; rw [hl14_96] at HO_14; (try simp only [hl14_96]); (try simp only [hl14_96] at BK101); (try simp only [hl14_96] at BK121); (try simp only [hl14_96] at HO_13); (try simp only [hl14_96] at HO_122001)
            cases kq with
            | zero => exact absurd HA.out (by simp [laws_FnExactStabilize.j2])
            | succ kj96 =>
              have H := HA.out; clear HA; simp only [laws_FnExactStabilize.j2] at H; by_cases c123 : x145_96 = true
              · subst c123; (have H1 : (none) = some r := by rw [if_pos rfl] at H; exact H); clear H; have H := H1; clear H1; exact absurd H (by simp)
              replace c123 := Bool.eq_false_iff.mpr c123; subst c123; (have H1 : ((laws_heldIntS.f kj96 t150 1).bind fun t171 => (if t171 < 0 then (none) else ((laws_heldIntS.f kj96 t152 t171).bind fun t172 => (if t172 < 0 then (none) else (if t172 = t151 then (some true) else (none)))))) = some r := by rw [if_neg (show ¬ (false = true) by decide)] at H; exact H); clear H; have H := H1; clear H1; replace H := Option.bind_eq_some_iff.mp H; obtain ⟨t171, A1240, H⟩ := H; replace H : (if t171 < 0 then (none) else ((laws_heldIntS.f kj96 t152 t171).bind fun t172 => (if t172 < 0 then (none) else (if t172 = t151 then (some true) else (none))))) = some r := H; have A124 := Aside0.mk A1240; clear A1240; by_cases c125 : t171 < 0
              · rw [if_pos c125] at H; exact absurd H (by simp)
              rw [if_neg c125] at H; have c125b0 : decide (t171 < 0) = false := decide_eq_false c125; clear c125; replace H := Option.bind_eq_some_iff.mp H; obtain ⟨t172, A1260, H⟩ := H; replace H : (if t172 < 0 then (none) else (if t172 = t151 then (some true) else (none))) = some r := H; have A126 := Aside0.mk A1260; clear A1260; by_cases c127 : t172 < 0
              · rw [if_pos c127] at H; exact absurd H (by simp)
              rw [if_neg c127] at H; have c127b0 : decide (t172 < 0) = false := decide_eq_false c127; clear c127; by_cases c128 : t172 = t151; rotate_left
              · rw [if_neg c128] at H; exact absurd H (by simp)
              rw [if_pos c128] at H; have c128b0 : (t172 == t151) = true := beq_iff_eq.mpr c128; have c128b1 : (t172 != t151) = false := bne_eq_false_iff_eq.mpr c128; clear c128; obtain rfl := Option.some.inj H; (go_wp2_with (first | ((with_reducible refine gate_callee (f := 40) rfl ?_); refine goesL_ (some 148) rfl rfl Try.func40 (by kernel_rfl) rfl #[.slice Ao98 t150.length co98, .int .i64 1] rfl zz3 ?_; (with_reducible refine (laws_heldIntS.calls kj96 _ _ t150 1 t171 _ ?side1 ?side2 A124.out).mono ?_); (case side1 => repeat (first | exact (Kd.R_reads' HO_13.out).2.2 | (with_reducible refine Kd.C_alloc ?_ _) | (with_reducible refine Kd.C_drewN ?_ _) | (with_reducible refine Kd.C_drew ?_))); (case side2 => exact (Kd.R_reads' HO_13.out).2.1); rintro e w' ⟨rfl, ⟨nd, rfl⟩⟩; refine ⟨_, rfl, ?_⟩) | ((with_reducible refine gate_callee (f := 40) rfl ?_); refine goesL_ (some 153) rfl rfl Try.func40 (by kernel_rfl) rfl #[.slice Ao100 t152.length co100, .int .i64 t171] rfl zz3 ?_; (with_reducible refine (laws_heldIntS.calls kj96 _ _ t152 t171 t172 _ ?side1 ?side2 A126.out).mono ?_); (case side1 => repeat (first | exact (Kd.R_reads' HO_14.out).2.2 | (with_reducible refine Kd.C_alloc ?_ _) | (with_reducible refine Kd.C_drewN ?_ _) | (with_reducible refine Kd.C_drew ?_))); (case side2 => exact (Kd.R_reads' HO_14.out).2.1); rintro e w' ⟨rfl, ⟨nd, rfl⟩⟩; refine ⟨_, rfl, ?_⟩))); go_ret; exact ⟨by first | rfl | (simp [errW_none, errW_some] <;> rfl) | (simp [*, errW_none, errW_some] <;> rfl), by repeat (first | (with_reducible first | exact HB.out | apply below_alloc | apply pw_below_drewN | apply below_drew1 | refine below_set ?_ GE101.out | refine below_set ?_ GE121.out) | exact HB.out)⟩
end Go.Proofs.Ytjecgolakaiddaa.P
end

section
namespace Go.Proofs.Ytjecgolakaiddaa.P
open Go.RowKit Go.Proofs.YtjecgolakaiddaaW.PrintWords Go.Proofs.YtjecgolakaiddaaW.PrintLast Go.Proofs.YtjecgolakaiddaaW.PrintMore
attribute [local go_sem] max2_int min2_int max_two min_two max_three min_three max_four min_four
set_option linter.unusedVariables false
set_option linter.unusedSimpArgs false
def impl_isVertex.f (a0_0 : Int) (l0_1 : List (S70)) (a1 : Int) : Option (Bool) := (impl_GraphOk.f a0_0 l0_1).bind fun t102 => (if t102 = true then ((impl_within.f a1 0 (wrap64 (a0_0 - 1))).bind fun t103 => (some t103)) else (some false))
end Go.Proofs.Ytjecgolakaiddaa.P
end

section
namespace Go.Proofs.Ytjecgolakaiddaa.P
open Go.RowKit Go.Proofs.YtjecgolakaiddaaW.PrintWords Go.Proofs.YtjecgolakaiddaaW.PrintLast Go.Proofs.YtjecgolakaiddaaW.PrintMore
attribute [local go_sem] max2_int min2_int max_two min_two max_three min_three max_four min_four
set_option linter.unusedVariables false
set_option linter.unusedSimpArgs false
def impl_isAt.f (a0_0 : Int) (l0_1 : List (S70)) (a1 : Int) (a2 : Int) : Option (Bool) := (impl_within.f a1 0 (wrap64 ((l0_1.length : Int) - 1))).bind fun t102 => (if t102 = true then (if 0 ≤ a1 then (if a1 < (l0_1.length : Int) then (if ((rd_T70 l0_1 a1).f0) = a2 then (some true) else (some (((rd_T70 l0_1 a1).f1) == a2))) else (none)) else (none)) else (some false))
end Go.Proofs.Ytjecgolakaiddaa.P
end

section
namespace Go.Proofs.Ytjecgolakaiddaa.Cf
set_option linter.unusedVariables false
set_option linter.unusedSimpArgs false
open Go.RowKit Go.Proofs.YtjecgolakaiddaaW.PrintWords Go.Proofs.Ytjecgolakaiddaa.P
theorem forall_drop' {α : Type} {l : List α} {P : α → Prop} {i : Nat} (h : i < l.length) : (∀ e ∈ l.drop i, P e) ↔ (P l[i] ∧ ∀ e ∈ l.drop (i + 1), P e) := by
  rw [List.drop_eq_getElem_cons h]
  simp only [List.mem_cons, forall_eq_or_imp]
theorem implGraph (n : Int) (es : List E) : impl_GraphOk.f n es = some (gOk n es) := rfl
theorem allWithin_l0 (a b : Int) (l : List Int) (hl : l.length ≤ 1048576) : ∀ (d i : Nat), i + d = l.length → Ep (fun k => impl_allWithin.l0 k a b l (l.length : Int) (i : Int)) (· = decide (∀ x ∈ l.drop i, a ≤ x ∧ x ≤ b)) := by
  intro d
  induction d with
  | zero =>
    intro i hi
    refine Ep.up ?_
    simp only [impl_allWithin.l0]
    refine Ep.neg (by omega) (Ep.now ?_)
    rw [List.drop_of_length_le (by omega)]
    simp
  | succ d ih =>
    intro i hi
    have hlt : i < l.length := by omega
    refine Ep.up ?_
    simp only [impl_allWithin.l0]
    refine Ep.pos (by omega) (Ep.pos (by omega) (Ep.pos (by omega) ?_))
    rw [rd_get hlt, wrap_succ (by omega)]
    refine Ep.bind0 (within_eq _ _ _) ?_
    refine Ep.ite (fun h => ?_) (fun h => Ep.now ?_)
    · have h' : a ≤ l[i] ∧ l[i] ≤ b := by simpa using h
      refine (ih (i + 1) (by omega)).mono ?_
      rintro _ rfl
      simp only [forall_drop' hlt, h', true_and]
    · have h' : ¬ (a ≤ l[i] ∧ l[i] ≤ b) := by simpa using h
      simp only [forall_drop' hlt, h', false_and, decide_false]
theorem allWithin_ok (l : List Int) (a b : Int) (hl : l.length ≤ 1048576) : Ep (fun k => impl_allWithin.f k l a b) (· = decide (∀ x ∈ l, a ≤ x ∧ x ≤ b)) := by
  have := allWithin_l0 a b l hl l.length 0 (by omega)
  simp only [impl_allWithin.f]
  rw [List.drop_zero] at this
  exact this
/-- The edge with this index is at v. -/
def At (es : List E) (k v : Int) : Prop := ∃ j : Nat, k = j ∧ ∃ h : j < es.length, es[j].f0 = v ∨ es[j].f1 = v
theorem At.of {es : List E} {j : Nat} {v : Int} (hj : j < es.length) : At es (j : Int) v ↔ (es[j].f0 = v ∨ es[j].f1 = v) := by
  constructor
  · rintro ⟨i, hi, h, hx⟩
    have : i = j := by omega
    subst this
    exact hx
  · intro h
    exact ⟨j, rfl, hj, h⟩
end Go.Proofs.Ytjecgolakaiddaa.Cf
end

section
namespace Go.Proofs.Ytjecgolakaiddaa.Cf
set_option linter.unusedVariables false
set_option linter.unusedSimpArgs false
def sumN : Nat → (Nat → Int) → Int
  | 0, _ => 0
  | n + 1, f => sumN n f + f n
def sumE (es : List E) (f : E → Int) : Int := (es.map f).sum
theorem sumE_cons (e : E) (r : List E) (f : E → Int) : sumE (e :: r) f = f e + sumE r f := by simp [sumE]
theorem sumN_congr {n : Nat} {f g : Nat → Int} (h : ∀ i, i < n → f i = g i) : sumN n f = sumN n g := by
  induction n with
  | zero => rfl
  | succ n ih => simp only [sumN]; rw [ih (fun i hi => h i (by omega)), h n (by omega)]
theorem sumN_le {n : Nat} {f g : Nat → Int} (h : ∀ i, i < n → f i ≤ g i) : sumN n f ≤ sumN n g := by
  induction n with
  | zero => exact Int.le_refl _
  | succ n ih =>
    simp only [sumN]
    have := ih (fun i hi => h i (by omega))
    have := h n (by omega)
    omega
theorem sumN_add (n : Nat) (f g : Nat → Int) : sumN n (fun i => f i + g i) = sumN n f + sumN n g := by
  induction n with
  | zero => rfl
  | succ n ih => simp only [sumN]; rw [ih]; omega
theorem sumN_zero (n : Nat) : sumN n (fun _ => 0) = 0 := by
  induction n with
  | zero => rfl
  | succ n ih => simp only [sumN]; rw [ih]; rfl
theorem sumN_const (n : Nat) (c : Int) : sumN n (fun _ => c) = n * c := by
  induction n with
  | zero => simp [sumN]
  | succ n ih => simp only [sumN]; rw [ih]; rw [Int.natCast_succ, Int.add_mul]; omega
theorem sumN_one {n : Nat} (k : Nat) (hk : k < n) (c : Int) : sumN n (fun i => if i = k then c else 0) = c := by
  induction n with
  | zero => omega
  | succ n ih =>
    simp only [sumN]
    by_cases h : n = k
    · subst h
      rw [if_pos rfl, sumN_congr (g := fun _ => 0) (fun i hi => by rw [if_neg (by omega)]), sumN_zero]
      omega
    · rw [ih (by omega), if_neg h]
      omega
theorem sumE_congr {es : List E} {f g : E → Int} (h : ∀ e ∈ es, f e = g e) : sumE es f = sumE es g := by
  unfold sumE
  rw [List.map_congr_left h]
theorem sumE_add (es : List E) (f g : E → Int) : sumE es (fun e => f e + g e) = sumE es f + sumE es g := by
  induction es with
  | nil => rfl
  | cons e r ih => rw [sumE_cons, sumE_cons, sumE_cons, ih]; omega
theorem sumE_le {es : List E} {f g : E → Int} (h : ∀ e ∈ es, f e ≤ g e) : sumE es f ≤ sumE es g := by
  induction es with
  | nil => exact Int.le_refl _
  | cons e r ih =>
    rw [sumE_cons, sumE_cons]
    have := ih (fun x hx => h x (List.mem_cons_of_mem _ hx))
    have := h e List.mem_cons_self
    omega
theorem sumE_zero {es : List E} {f : E → Int} (h : ∀ e ∈ es, f e = 0) : sumE es f = 0 := by
  induction es with
  | nil => rfl
  | cons e r ih => rw [sumE_cons, ih (fun x hx => h x (List.mem_cons_of_mem _ hx)), h e List.mem_cons_self]; rfl
theorem sumE_nonneg {es : List E} {f : E → Int} (h : ∀ e ∈ es, 0 ≤ f e) : 0 ≤ sumE es f := by
  have := sumE_le (es := es) (f := fun _ => 0) (g := f) h
  rw [sumE_zero (fun _ _ => rfl)] at this
  exact this
theorem sumE_term {es : List E} {f : E → Int} (h : ∀ e ∈ es, 0 ≤ f e) {e : E} (he : e ∈ es) : f e ≤ sumE es f := by
  induction es with
  | nil => cases he
  | cons a r ih =>
    rw [sumE_cons]
    have h0 := sumE_nonneg (fun x hx => h x (List.mem_cons_of_mem a hx))
    rcases List.mem_cons.1 he with rfl | he
    · omega
    · have := ih (fun x hx => h x (List.mem_cons_of_mem _ hx)) he
      have := h a List.mem_cons_self
      omega
theorem sumE_neg (es : List E) (f : E → Int) : sumE es (fun e => - f e) = - sumE es f := by
  induction es with
  | nil => rfl
  | cons e r ih => rw [sumE_cons, sumE_cons, ih]; omega
theorem sumE_mul (es : List E) (c : Int) (f : E → Int) : sumE es (fun e => c * f e) = c * sumE es f := by
  induction es with
  | nil => simp [sumE]
  | cons e r ih => rw [sumE_cons, sumE_cons, ih, Int.mul_add]
/-- What an edge takes from w when the script s is fired. -/
def lapE (s : Int → Int) (w : Int) (e : E) : Int := (if e.f0 = w then s e.f0 - s e.f1 else 0) + (if e.f1 = w then s e.f1 - s e.f0 else 0)
/-- What w loses when the script s is fired. -/
def lap (es : List E) (s : Int → Int) (w : Int) : Int := sumE es (lapE s w)
def ind (P : Int → Bool) (v : Int) : Int := if P v then 1 else 0
def one (v : Int) (t : Int) (w : Int) : Int := if w = v then t else 0
theorem lap_nil (s : Int → Int) (w : Int) : lap [] s w = 0 := rfl
theorem lap_cons (e : E) (r : List E) (s : Int → Int) (w : Int) : lap (e :: r) s w = lapE s w e + lap r s w := sumE_cons _ _ _
theorem lap_add (es : List E) (s t : Int → Int) (w : Int) : lap es (fun v => s v + t v) w = lap es s w + lap es t w := by
  unfold lap
  rw [← sumE_add]
  apply sumE_congr
  intro e _
  simp only [lapE]
  split <;> split <;> omega
theorem lap_neg (es : List E) (s : Int → Int) (w : Int) : lap es (fun v => - s v) w = - lap es s w := by
  unfold lap
  rw [← sumE_neg]
  apply sumE_congr
  intro e _
  simp only [lapE]
  split <;> split <;> omega
theorem lap_sub (es : List E) (s t : Int → Int) (w : Int) : lap es (fun v => s v - t v) w = lap es s w - lap es t w := by
  have := lap_add es s (fun v => - t v) w
  rw [lap_neg] at this
  rw [show (fun v => s v - t v) = (fun v => s v + - t v) from funext fun v => by omega, this]
  omega
theorem lap_congr {n : Int} {es : List E} (hes : ∀ e ∈ es, EOk n e) {s t : Int → Int} (h : ∀ v, 0 ≤ v → v < n → s v = t v) (w : Int) : lap es s w = lap es t w := by
  apply sumE_congr
  intro e he
  have hk := hes e he
  unfold EOk at hk
  unfold lapE
  rw [h e.f0 (by omega) (by omega), h e.f1 (by omega) (by omega)]
theorem lap_const {es : List E} {s : Int → Int} {c : Int} (h : ∀ e ∈ es, s e.f0 = c ∧ s e.f1 = c) (w : Int) : lap es s w = 0 := by
  apply sumE_zero
  intro e he
  unfold lapE
  rw [(h e he).1, (h e he).2]
  split <;> split <;> omega
/-- Dirichlet's form. -/
theorem dirichlet {n : Nat} {es : List E} (hes : ∀ e ∈ es, EOk n e) (f s : Int → Int) : sumN n (fun i => f i * lap es s i) = sumE es (fun e => (f e.f0 - f e.f1) * (s e.f0 - s e.f1)) := by
  induction es with
  | nil => simp only [lap_nil, Int.mul_zero]; rw [sumN_zero]; rfl
  | cons e r ih =>
    have hk := hes e List.mem_cons_self
    unfold EOk at hk
    rw [sumE_cons, ← ih (fun x hx => hes x (List.mem_cons_of_mem _ hx))]
    have h1 : sumN n (fun i => f i * lap (e :: r) s i) = sumN n (fun i => f i * lapE s i e) + sumN n (fun i => f i * lap r s i) := by
      rw [← sumN_add]
      apply sumN_congr
      intro i _
      rw [lap_cons, Int.mul_add]
    rw [h1]
    congr 1
    have h2 : sumN n (fun i => f i * lapE s i e) = sumN n (fun i => if i = e.f0.toNat then f e.f0 * (s e.f0 - s e.f1) else 0) + sumN n (fun i => if i = e.f1.toNat then f e.f1 * (s e.f1 - s e.f0) else 0) := by
      rw [← sumN_add]
      apply sumN_congr
      intro i _
      unfold lapE
      have c0 : (e.f0 = (i : Int)) ↔ (i = e.f0.toNat) := by omega
      have c1 : (e.f1 = (i : Int)) ↔ (i = e.f1.toNat) := by omega
      rw [Int.mul_add]
      congr 1
      · by_cases h : e.f0 = (i : Int)
        · rw [if_pos h, if_pos (c0.1 h), h]
        · rw [if_neg h, if_neg (fun x => h (c0.2 x)), Int.mul_zero]
      · by_cases h : e.f1 = (i : Int)
        · rw [if_pos h, if_pos (c1.1 h), h]
        · rw [if_neg h, if_neg (fun x => h (c1.2 x)), Int.mul_zero]
    rw [h2, sumN_one _ (by omega), sumN_one _ (by omega)]
    rw [show s e.f1 - s e.f0 = -(s e.f0 - s e.f1) by omega, Int.mul_neg, Int.sub_mul]
    omega
/-- Across an edge out of a set that is above, no more than what the set loses. -/
theorem cut_le {n : Nat} {es : List E} (hes : ∀ e ∈ es, EOk n e) {s : Int → Int} {t C : Int} (hC : sumN n (fun i => ind (fun v => decide (t ≤ s v)) i * lap es s i) ≤ C) {a b : Int} (hab : Adj es a b) (ha : t ≤ s a) (hb : s b < t) : s a - s b ≤ C := by
  rw [dirichlet hes] at hC
  obtain ⟨e, he, hx⟩ := hab
  have hnn : ∀ e ∈ es, 0 ≤ (ind (fun v => decide (t ≤ s v)) e.f0 - ind (fun v => decide (t ≤ s v)) e.f1) * (s e.f0 - s e.f1) := by
    intro e _
    unfold ind
    by_cases h0 : t ≤ s e.f0 <;> by_cases h1 : t ≤ s e.f1 <;> simp [h0, h1] <;> omega
  have h1 := sumE_term hnn he
  have h2 : s a - s b ≤ (ind (fun v => decide (t ≤ s v)) e.f0 - ind (fun v => decide (t ≤ s v)) e.f1) * (s e.f0 - s e.f1) := by
    unfold ind
    rcases hx with ⟨x0, x1⟩ | ⟨x0, x1⟩
    · subst x0; subst x1
      have h1 : ¬ t ≤ s e.f1 := by omega
      simp [ha, h1]
    · subst x0; subst x1
      have h1 : ¬ t ≤ s e.f0 := by omega
      simp [ha, h1]
      omega
  omega
/-- From a set that is not all and not closed an edge leads out. -/
theorem exists_cut {es : List E} {S : Int → Prop} {a b : Int} (hab : Conn es a b) (ha : ¬ S a) (hb : S b) : ∃ u w, Adj es u w ∧ S u ∧ ¬ S w := by
  induction hab with
  | refl => exact absurd hb ha
  | @tail x y _ hadj ih =>
    by_cases hx : S x
    · exact ih hx
    · exact ⟨y, x, hadj.symm, hb, hx⟩
def below (n : Nat) (s : Int → Int) (t : Int) : Nat := (List.range n).countP (fun i => decide (s (i : Nat) < t))
/-- A script that is 0 at q, all of whose upper sets lose no more than C, is at most 6 C. -/
theorem script_le {n : Nat} {es : List E} (hes : ∀ e ∈ es, EOk n e) (hj : Joined n es) {q : Int} (hq : 0 ≤ q ∧ q < n) {s : Int → Int} {C : Int} (hC0 : 0 ≤ C) (hsq : s q ≤ 0)
    (hC : ∀ t : Int, 0 < t → sumN n (fun i => ind (fun v => decide (t ≤ s v)) i * lap es s i) ≤ C) : ∀ v : Int, 0 ≤ v → v < n → s v ≤ n * C := by
  have key : ∀ k : Nat, ∀ v : Int, 0 ≤ v → v < n → below n s (s v) ≤ k → s v ≤ k * C := by
    intro k
    induction k with
    | zero =>
      intro v h0 h1 hk
      apply Classical.byContradiction
      intro hc
      have hpos : 0 < below n s (s v) := by
        unfold below
        rw [List.countP_pos_iff]
        refine ⟨q.toNat, List.mem_range.2 (by omega), ?_⟩
        have : ((q.toNat : Nat) : Int) = q := by omega
        rw [this]
        simp
        omega
      omega
    | succ k ih =>
      intro v h0 h1 hk
      by_cases hpos : s v ≤ 0
      · have : 0 ≤ ((k + 1 : Nat) : Int) * C := Int.mul_nonneg (by omega) hC0
        omega
      · have hqv : Conn es q v := ((hj q hq.1 hq.2).symm).trans (hj v h0 h1)
        obtain ⟨u, w, hadj, hu, hw⟩ := exists_cut (S := fun x => s v ≤ s x) hqv (by omega) (Int.le_refl _)
        have hcut := cut_le hes (hC (s v) (by omega)) hadj hu (by omega)
        have hw0 := EsOk.adj hes hadj
        have hlt : below n s (s w) < below n s (s v) := by
          refine countP_lt (fun x _ hx => ?_) ⟨w.toNat, List.mem_range.2 (by omega), ?_, ?_⟩
          · simp only [decide_eq_true_eq] at hx ⊢
            omega
          · have : ((w.toNat : Nat) : Int) = w := by omega
            rw [this]; simp
          · have : ((w.toNat : Nat) : Int) = w := by omega
            rw [this]; simp; omega
        have := ih w hw0.1 hw0.2 (by omega)
        rw [Int.natCast_succ, Int.add_mul, Int.one_mul]
        omega
  intro v h0 h1
  refine key n v h0 h1 ?_
  have := List.countP_le_length (p := fun i => decide (s ((i : Nat) : Int) < s v)) (l := List.range n)
  rw [List.length_range] at this
  exact this
end Go.Proofs.Ytjecgolakaiddaa.Cf
end

section
namespace Go.Proofs.Ytjecgolakaiddaa.Cf
set_option linter.unusedVariables false
set_option linter.unusedSimpArgs false
theorem script_bd {n : Nat} {es : List E} (hes : ∀ e ∈ es, EOk n e) (hj : Joined n es) {q : Int} (hq : 0 ≤ q ∧ q < n) {s : Int → Int} {c : Int} (hc : 0 ≤ c) (hsq : s q ≤ 0)
    (h : ∀ v : Int, 0 ≤ v → v < n → 0 < s v → lap es s v ≤ c) : ∀ v : Int, 0 ≤ v → v < n → s v ≤ n * (n * c) := by
  refine script_le hes hj hq (Int.mul_nonneg (by omega) hc) hsq ?_
  intro t ht
  rw [← sumN_const]
  apply sumN_le
  intro i hi
  unfold ind
  by_cases hx : t ≤ s i
  · simp only [hx, decide_true, if_true, Int.one_mul]
    exact h i (by omega) (by omega) (by omega)
  · simp only [hx, decide_false, Int.zero_mul, Bool.false_eq_true, if_false]
    exact hc
def valE (v : Int) (e : E) : Int := if e.f0 = v ∨ e.f1 = v then 1 else 0
/-- The number of edges at a vertex. -/
def val (es : List E) (v : Int) : Int := sumE es (valE v)
def multE (a b : Int) (e : E) : Int := if (e.f0 = a ∧ e.f1 = b) ∨ (e.f0 = b ∧ e.f1 = a) then 1 else 0
/-- The number of edges between two vertices. -/
def mult (es : List E) (a b : Int) : Int := sumE es (multE a b)
theorem val_nonneg (es : List E) (v : Int) : 0 ≤ val es v := sumE_nonneg fun e _ => by unfold valE; split <;> omega
theorem mult_nonneg (es : List E) (a b : Int) : 0 ≤ mult es a b := sumE_nonneg fun e _ => by unfold multE; split <;> omega
/-- One vertex fires: it loses its valence. -/
theorem lap_one_self {n : Int} {es : List E} (hes : ∀ e ∈ es, EOk n e) (v t : Int) : lap es (one v t) v = t * val es v := by
  unfold lap val
  rw [← sumE_mul]
  apply sumE_congr
  intro e he
  have hk := hes e he
  unfold EOk at hk
  unfold lapE valE one
  by_cases a : e.f0 = v
  · have b : ¬ e.f1 = v := by omega
    simp [a, b]
  · by_cases b : e.f1 = v
    · simp [a, b]
    · simp [a, b]
/-- .. and another one gains along their edges. -/
theorem lap_one_ne {n : Int} {es : List E} (hes : ∀ e ∈ es, EOk n e) {v w : Int} (hvw : w ≠ v) (t : Int) : lap es (one v t) w = - (t * mult es v w) := by
  unfold lap mult
  rw [← sumE_mul, ← sumE_neg]
  apply sumE_congr
  intro e he
  have hk := hes e he
  unfold EOk at hk
  unfold lapE multE one
  by_cases a : e.f0 = w
  · have b : ¬ e.f1 = w := by omega
    have c : ¬ e.f0 = v := by omega
    by_cases x : e.f1 = v
    · simp [a, x]; omega
    · simp [a, b, x, hvw]
  · by_cases b : e.f1 = w
    · have c : ¬ e.f1 = v := by omega
      by_cases x : e.f0 = v
      · simp [a, b, x]; omega
      · simp [a, b, x, hvw]
    · simp [a, b]
theorem val_pos {n : Nat} {es : List E} (hj : Joined n es) {q v : Int} (hq : 0 ≤ q ∧ q < n) (hv : 0 ≤ v ∧ v < n) (hne : v ≠ q) : 0 < val es v := by
  have hc : Conn es q v := ((hj q hq.1 hq.2).symm).trans (hj v hv.1 hv.2)
  obtain ⟨u, w, ⟨e, he, hx⟩, hu, hw⟩ := exists_cut (S := fun x => x = v) hc (fun h => hne h.symm) rfl
  subst hu
  have h1 := sumE_term (f := valE u) (fun e _ => by unfold valE; split <;> omega) he
  have h2 : valE u e = 1 := by
    unfold valE
    rw [if_pos]
    rcases hx with ⟨a, _⟩ | ⟨_, b⟩
    · exact .inl a
    · exact .inr b
  unfold val
  omega
/-- s is reached from p by toppling unstable vertices other than q. -/
inductive Legal (n : Nat) (es : List E) (q : Int) (p : Int → Int) : (Int → Int) → Prop
  | zero : Legal n es q p (fun _ => 0)
  | step {s : Int → Int} {v : Int} : Legal n es q p s → 0 ≤ v → v < n → v ≠ q → val es v ≤ p v - lap es s v → Legal n es q p (fun w => s w + one v 1 w)
def Stable (n : Nat) (es : List E) (q : Int) (d : Int → Int) : Prop := ∀ v : Int, 0 ≤ v → v < n → v ≠ q → d v < val es v
theorem lap_le_zero {es : List E} {r : Int → Int} {v : Int} (h : ∀ w, 0 ≤ r w) (hv : r v = 0) : lap es r v ≤ 0 := by
  have := sumE_le (es := es) (f := lapE r v) (g := fun _ => 0) (fun e _ => by
    unfold lapE
    have h0 := h e.f0
    have h1 := h e.f1
    by_cases a : e.f0 = v
    · by_cases b : e.f1 = v
      · simp [a, b]
      · rw [if_pos a, if_neg b, a, hv]; omega
    · by_cases b : e.f1 = v
      · rw [if_neg a, if_pos b, b, hv]; omega
      · rw [if_neg a, if_neg b]; omega)
  rw [sumE_zero (fun _ _ => rfl)] at this
  exact this
theorem Legal.nonneg {n : Nat} {es : List E} {q : Int} {p s : Int → Int} (h : Legal n es q p s) : (∀ w, 0 ≤ s w) ∧ s q = 0 := by
  induction h with
  | zero => exact ⟨fun _ => Int.le_refl _, rfl⟩
  | @step s v _ _ _ hq _ ih =>
    refine ⟨fun w => ?_, ?_⟩
    · have := ih.1 w
      show 0 ≤ s w + one v 1 w
      unfold one
      split <;> omega
    · have := ih.2
      show s q + one v 1 q = 0
      unfold one
      rw [if_neg (fun x : q = v => hq x.symm)]
      omega
/-- The least action: a legal script is at most any script that stabilizes. -/
theorem Legal.least {n : Nat} {es : List E} {q : Int} {p s t : Int → Int} (h : Legal n es q p s) (ht : ∀ w, 0 ≤ t w) (hst : Stable n es q (fun v => p v - lap es t v)) : ∀ w, s w ≤ t w := by
  induction h with
  | zero => exact ht
  | @step s v _ h0 h1 hq hv ih =>
    intro w
    show s w + one v 1 w ≤ t w
    unfold one
    by_cases e : w = v
    · subst e
      rw [if_pos rfl]
      have := ih w
      by_cases hlt : s w < t w
      · omega
      · exfalso
        have hle := lap_le_zero (es := es) (r := fun x => t x - s x) (v := w) (fun x => by have := ih x; omega) (by omega)
        rw [lap_sub] at hle
        have := hst w h0 h1 hq
        simp only at this
        omega
    · rw [if_neg e]
      have := ih w
      omega
/-- Two legal scripts that stabilize are one. -/
theorem Legal.unique {n : Nat} {es : List E} {q : Int} {p s t : Int → Int} (hs : Legal n es q p s) (ht : Legal n es q p t) (ss : Stable n es q (fun v => p v - lap es s v)) (st : Stable n es q (fun v => p v - lap es t v)) : s = t := by
  funext w
  have := hs.least ht.nonneg.1 st w
  have := ht.least hs.nonneg.1 ss w
  omega
/-- Several topplings of one vertex at once. -/
theorem Legal.many {n : Nat} {es : List E} (hes : ∀ e ∈ es, EOk n e) {q : Int} {p s : Int → Int} (h : Legal n es q p s) {v : Int} (h0 : 0 ≤ v) (h1 : v < n) (hq : v ≠ q) : ∀ k : Nat, k * val es v ≤ p v - lap es s v → Legal n es q p (fun w => s w + one v k w)
  | 0, _ => by
    have : (fun w => s w + one v ((0 : Nat) : Int) w) = s := by
      funext w
      unfold one
      split <;> simp
    rw [this]
    exact h
  | k + 1, hk => by
    have hv := val_nonneg es v
    rw [Int.natCast_succ, Int.add_mul] at hk
    have ih := Legal.many hes h h0 h1 hq k (by omega)
    have := Legal.step ih h0 h1 hq (by
      rw [lap_add, lap_one_self hes]
      omega)
    have e : (fun w => s w + one v ((k + 1 : Nat) : Int) w) = fun w => s w + one v (k : Int) w + one v 1 w := by
      funext w
      unfold one
      split <;> omega
    rw [e]
    exact this
end Go.Proofs.Ytjecgolakaiddaa.Cf
end

section
namespace Go.Proofs.Ytjecgolakaiddaa.Cf
set_option linter.unusedVariables false
set_option linter.unusedSimpArgs false
open Go.RowKit Go.Proofs.YtjecgolakaiddaaW.PrintWords Go.Proofs.Ytjecgolakaiddaa.P
/-- A divisor. -/
def dOk (n : Int) (es : List E) (d : List Int) : Bool := gOk n es && (decide ((d.length : Int) = n) && decide (∀ x ∈ d, -60 ≤ x ∧ x ≤ 60))
theorem dOk_iff {n : Int} {es : List E} {d : List Int} : dOk n es d = true ↔ GOk n es ∧ (d.length : Int) = n ∧ ∀ x ∈ d, -60 ≤ x ∧ x ≤ 60 := by
  unfold dOk
  simp only [Bool.and_eq_true, decide_eq_true_eq, gOk_iff]
theorem specDiv_l0 (o : List Int) (hl : o.length ≤ 1048576) : ∀ (d i : Nat), i + d = o.length → Ep (fun k => spec_DivisorOk.l0 k o (o.length : Int) (i : Int)) (· = decide (∀ x ∈ o.drop i, -60 ≤ x ∧ x ≤ 60)) := by
  intro d
  induction d with
  | zero =>
    intro i hi
    refine Ep.up ?_
    simp only [spec_DivisorOk.l0]
    refine Ep.neg (by omega) (Ep.now ?_)
    rw [List.drop_of_length_le (by omega)]
    simp
  | succ d ih =>
    intro i hi
    have hlt : i < o.length := by omega
    refine Ep.up ?_
    simp only [spec_DivisorOk.l0]
    refine Ep.pos (by omega) (Ep.pos (by omega) (Ep.pos (by omega) ?_))
    rw [rd_get hlt, wrap_succ (by omega)]
    refine Ep.bind0 (l01In_eq _ _ _) ?_
    refine Ep.ite (fun h => ?_) (fun h => Ep.now ?_)
    · have h' : -60 ≤ o[i] ∧ o[i] ≤ 60 := by simpa using h
      refine (ih (i + 1) (by omega)).mono ?_
      rintro _ rfl
      simp only [forall_drop' hlt, h', true_and]
    · have h' : ¬ (-60 ≤ o[i] ∧ o[i] ≤ 60) := by simpa using h
      simp only [forall_drop' hlt, h', false_and, decide_false]
theorem specDiv (n : Int) (es : List E) (d : List Int) (hl : d.length ≤ 1048576) : Ep (fun k => spec_DivisorOk.f k n es d) (· = dOk n es d) := by
  simp only [spec_DivisorOk.f, dOk]
  refine Ep.bind (specGraph n es) ?_
  rintro _ rfl
  refine Ep.ite (fun hg => ?_) (fun hg => ?_)
  · refine Ep.up ?_
    simp only [spec_DivisorOk.j0]
    refine Ep.ite (fun h => Ep.now ?_) (fun h => ?_)
    · have h' : ¬ (d.length : Int) = n := by simpa using h
      simp [h']
    · have h' : (d.length : Int) = n := by simpa using h
      refine (specDiv_l0 d hl d.length 0 (by omega)).mono ?_
      rintro _ rfl
      rw [List.drop_zero, hg]
      simp only [h', decide_true, Bool.true_and]
  · refine Ep.up ?_
    simp only [spec_DivisorOk.j0]
    refine Ep.pos trivial (Ep.now ?_)
    have : gOk n es = false := by simpa using hg
    simp [this]
theorem implDiv (n : Int) (es : List E) (d : List Int) (hl : d.length ≤ 1048576) : Ep (fun k => impl_DivisorOk.f k n es d) (· = dOk n es d) := by
  simp only [impl_DivisorOk.f, dOk]
  refine Ep.bind0 (implGraph n es) (Ep.ite (fun hg => ?_) (fun hg => Ep.now ?_))
  · refine Ep.ite (fun h => ?_) (fun h => Ep.now ?_)
    · refine Ep.bind (allWithin_ok d (-60) 60 hl) ?_
      rintro _ rfl
      refine Ep.now ?_
      rw [hg]
      simp only [h, decide_true, Bool.true_and]
    · simp [h]
  · have : gOk n es = false := by simpa using hg
    simp [this]
theorem specEff_l0 (o : List Int) (hl : o.length ≤ 1048576) : ∀ (d i : Nat), i + d = o.length → Ep (fun k => spec_IsEffective.l0 k o (o.length : Int) (i : Int)) (· = decide (∀ x ∈ o.drop i, 0 ≤ x)) := by
  intro d
  induction d with
  | zero =>
    intro i hi
    refine Ep.up ?_
    simp only [spec_IsEffective.l0]
    refine Ep.neg (by omega) (Ep.now ?_)
    rw [List.drop_of_length_le (by omega)]
    simp
  | succ d ih =>
    intro i hi
    have hlt : i < o.length := by omega
    refine Ep.up ?_
    simp only [spec_IsEffective.l0]
    refine Ep.pos (by omega) (Ep.pos (by omega) (Ep.pos (by omega) ?_))
    rw [rd_get hlt, wrap_succ (by omega)]
    refine Ep.ite (fun h => Ep.now ?_) (fun h => ?_)
    · have h' : ¬ 0 ≤ o[i] := by omega
      simp only [forall_drop' hlt, h', false_and, decide_false]
    · have h' : 0 ≤ o[i] := by omega
      refine (ih (i + 1) (by omega)).mono ?_
      rintro _ rfl
      simp only [forall_drop' hlt, h', true_and]
theorem specEff (d : List Int) (hl : d.length ≤ 1048576) : Ep (fun k => spec_IsEffective.f k d) (· = decide (∀ x ∈ d, 0 ≤ x)) := by
  have := specEff_l0 d hl d.length 0 (by omega)
  simp only [spec_IsEffective.f]
  rw [List.drop_zero] at this
  exact this
theorem implEff_l0 (o : List Int) (hl : o.length ≤ 1048576) : ∀ (d i : Nat), i + d = o.length → Ep (fun k => impl_IsEffective.l0 k o (o.length : Int) (i : Int)) (· = decide (∀ x ∈ o.drop i, 0 ≤ x)) := by
  intro d
  induction d with
  | zero =>
    intro i hi
    refine Ep.up ?_
    simp only [impl_IsEffective.l0]
    refine Ep.neg (by omega) (Ep.now ?_)
    rw [List.drop_of_length_le (by omega)]
    simp
  | succ d ih =>
    intro i hi
    have hlt : i < o.length := by omega
    refine Ep.up ?_
    simp only [impl_IsEffective.l0]
    refine Ep.pos (by omega) (Ep.pos (by omega) (Ep.pos (by omega) ?_))
    rw [rd_get hlt, wrap_succ (by omega)]
    refine Ep.ite (fun h => Ep.now ?_) (fun h => ?_)
    · have h' : ¬ 0 ≤ o[i] := by omega
      simp only [forall_drop' hlt, h', false_and, decide_false]
    · have h' : 0 ≤ o[i] := by omega
      refine (ih (i + 1) (by omega)).mono ?_
      rintro _ rfl
      simp only [forall_drop' hlt, h', true_and]
theorem implEff (d : List Int) (hl : d.length ≤ 1048576) : Ep (fun k => impl_IsEffective.f k d) (· = decide (∀ x ∈ d, 0 ≤ x)) := by
  have := implEff_l0 d hl d.length 0 (by omega)
  simp only [impl_IsEffective.f]
  rw [List.drop_zero] at this
  exact this
/-- A configuration. -/
def pOk (n : Int) (es : List E) (p : List Int) (q : Int) : Bool := dOk n es p && (decide (0 ≤ q ∧ q < n) && (decide (∀ x ∈ p, 0 ≤ x) && decide (rd p q = 0)))
theorem pOk_iff {n : Int} {es : List E} {p : List Int} {q : Int} : pOk n es p q = true ↔ (GOk n es ∧ (p.length : Int) = n ∧ ∀ x ∈ p, -60 ≤ x ∧ x ≤ 60) ∧ (0 ≤ q ∧ q < n) ∧ (∀ x ∈ p, 0 ≤ x) ∧ rd p q = 0 := by
  unfold pOk
  simp only [Bool.and_eq_true, decide_eq_true_eq, dOk_iff]
theorem specPile (n : Int) (es : List E) (p : List Int) (q : Int) (hl : p.length ≤ 1048576) : Ep (fun k => spec_PileOk.f k n es p q) (· = pOk n es p q) := by
  simp only [spec_PileOk.f, pOk]
  refine Ep.bind (specDiv n es p hl) ?_
  rintro _ rfl
  refine Ep.ite (fun hd => ?_) (fun hd => Ep.now ?_)
  · obtain ⟨⟨⟨h1, h6, _, _⟩, _, _⟩, hpl, _⟩ := dOk_iff.1 hd
    rw [wrap_id (x := n - 1) (by omega) (by omega)]
    refine Ep.bind0 (l01In_eq _ _ _) ?_
    have hq : (0 ≤ q ∧ q ≤ n - 1) ↔ (0 ≤ q ∧ q < n) := by omega
    simp only [hq]
    refine Ep.ite (fun h => ?_) (fun h => Ep.now ?_)
    · refine Ep.bind (specEff p hl) ?_
      rintro _ rfl
      have h' : 0 ≤ q ∧ q < n := by simpa using h
      refine Ep.ite (fun he => Ep.pos h'.1 (Ep.pos (by omega) (Ep.now ?_))) (fun he => Ep.now ?_)
      · rw [hd, h, he]
        rfl
      · have he' : decide (∀ x ∈ p, 0 ≤ x) = false := by simpa using he
        rw [he']
        simp
    · have h' : decide (0 ≤ q ∧ q < n) = false := by simpa using h
      rw [h']
      simp
  · have hd' : dOk n es p = false := by simpa using hd
    rw [hd']
    rfl
theorem implPile (n : Int) (es : List E) (p : List Int) (q : Int) (hl : p.length ≤ 1048576) : Ep (fun k => impl_PileOk.f k n es p q) (· = pOk n es p q) := by
  simp only [impl_PileOk.f, pOk]
  refine Ep.bind (implDiv n es p hl) ?_
  rintro _ rfl
  refine Ep.ite (fun hd => ?_) (fun hd => Ep.now ?_)
  · obtain ⟨⟨⟨h1, h6, _, _⟩, _, _⟩, hpl, _⟩ := dOk_iff.1 hd
    rw [wrap_id (x := n - 1) (by omega) (by omega)]
    refine Ep.bind0 (within_eq _ _ _) ?_
    have hq : (0 ≤ q ∧ q ≤ n - 1) ↔ (0 ≤ q ∧ q < n) := by omega
    simp only [hq]
    refine Ep.ite (fun h => ?_) (fun h => Ep.now ?_)
    · refine Ep.bind (implEff p hl) ?_
      rintro _ rfl
      have h' : 0 ≤ q ∧ q < n := by simpa using h
      refine Ep.ite (fun he => Ep.pos h'.1 (Ep.pos (by omega) (Ep.now ?_))) (fun he => Ep.now ?_)
      · rw [hd, h, he]
        rfl
      · have he' : decide (∀ x ∈ p, 0 ≤ x) = false := by simpa using he
        rw [he']
        simp
    · have h' : decide (0 ≤ q ∧ q < n) = false := by simpa using h
      rw [h']
      simp
  · have hd' : dOk n es p = false := by simpa using hd
    rw [hd']
    rfl
/-- The valence, 0 where there is no such vertex. -/
def valG (n : Int) (es : List E) (v : Int) : Int := if 0 ≤ v ∧ v < n then val es v else 0
theorem val_drop {es : List E} {i : Nat} (h : i < es.length) (v : Int) : val (es.drop i) v = valE v es[i] + val (es.drop (i + 1)) v := by
  rw [List.drop_eq_getElem_cons h]
  exact sumE_cons _ _ _
theorem specVal_loop (v : Int) (es : List E) (hl : es.length ≤ 1048576) : ∀ (d i : Nat) (a : Int), i + d = es.length → 0 ≤ a → a ≤ i → Ep (fun k => spec_Valence.l0 k v a es (es.length : Int) (i : Int)) (· = a + val (es.drop i) v) := by
  intro d
  induction d with
  | zero =>
    intro i a hi h0 ha
    refine Ep.up ?_
    simp only [spec_Valence.l0]
    refine Ep.neg (by omega) (Ep.now ?_)
    rw [List.drop_of_length_le (by omega)]
    simp [val, sumE]
  | succ d ih =>
    intro i a hi h0 ha
    have hlt : i < es.length := by omega
    refine Ep.up ?_
    simp only [spec_Valence.l0]
    refine Ep.pos (by omega) (Ep.pos (by omega) (Ep.pos (by omega) ?_))
    rw [rdE_get hlt, wrap_succ (by omega), wrap_id (x := a + 1) (by omega) (by omega), val_drop hlt]
    refine Ep.ite (fun h => ?_) (fun h => Ep.ite (fun h2 => ?_) (fun h2 => ?_))
    · refine (ih (i + 1) (a + 1) (by omega) (by omega) (by omega)).mono ?_
      rintro _ rfl
      unfold valE
      rw [if_pos (.inl h)]
      omega
    · refine (ih (i + 1) (a + 1) (by omega) (by omega) (by omega)).mono ?_
      rintro _ rfl
      unfold valE
      rw [if_pos (.inr h2)]
      omega
    · refine (ih (i + 1) a (by omega) h0 (by omega)).mono ?_
      rintro _ rfl
      unfold valE
      rw [if_neg (by rintro (x | x); exact h x; exact h2 x)]
      omega
theorem specValence (n : Int) (es : List E) (v : Int) (hl : es.length ≤ 1048576) : Ep (fun k => spec_Valence.f k n es v) (· = valG n es v) := by
  have hv : spec_l02Vert.f n es v = some (decide (0 ≤ v ∧ v < n)) := by
    unfold spec_l02Vert.f
    by_cases h : v ≥ 0
    · rw [if_pos h]
      have : (0 ≤ v ∧ v < n) ↔ v < n := ⟨fun x => x.2, fun x => ⟨h, x⟩⟩
      simp only [this]
    · rw [if_neg h]
      have : ¬ (0 ≤ v ∧ v < n) := fun x => h x.1
      simp only [this, decide_false]
  simp only [spec_Valence.f, valG]
  refine Ep.bind0 hv (Ep.ite (fun h => ?_) (fun h => Ep.now ?_))
  · refine (specVal_loop v es hl es.length 0 0 (by omega) (by omega) (by omega)).mono ?_
    rintro _ rfl
    rw [if_pos (by simpa using h), List.drop_zero]
    omega
  · rw [if_neg (by simpa using h)]
theorem implVal_loop (v : Int) (es : List E) (hl : es.length ≤ 1048576) : ∀ (d i : Nat) (a : Int), i + d = es.length → 0 ≤ a → a ≤ i → Ep (fun k => impl_Valence.l0 k v a es (es.length : Int) (i : Int)) (· = a + val (es.drop i) v) := by
  intro d
  induction d with
  | zero =>
    intro i a hi h0 ha
    refine Ep.up ?_
    simp only [impl_Valence.l0]
    refine Ep.neg (by omega) (Ep.now ?_)
    rw [List.drop_of_length_le (by omega)]
    simp [val, sumE]
  | succ d ih =>
    intro i a hi h0 ha
    have hlt : i < es.length := by omega
    refine Ep.up ?_
    simp only [impl_Valence.l0]
    refine Ep.pos (by omega) (Ep.pos (by omega) (Ep.pos (by omega) ?_))
    rw [rdE_get hlt, wrap_succ (by omega), wrap_id (x := a + 1) (by omega) (by omega), val_drop hlt]
    refine Ep.ite (fun h => ?_) (fun h => Ep.ite (fun h2 => ?_) (fun h2 => ?_))
    · refine (ih (i + 1) (a + 1) (by omega) (by omega) (by omega)).mono ?_
      rintro _ rfl
      unfold valE
      rw [if_pos (.inl h)]
      omega
    · refine (ih (i + 1) (a + 1) (by omega) (by omega) (by omega)).mono ?_
      rintro _ rfl
      unfold valE
      rw [if_pos (.inr h2)]
      omega
    · refine (ih (i + 1) a (by omega) h0 (by omega)).mono ?_
      rintro _ rfl
      unfold valE
      rw [if_neg (by rintro (x | x); exact h x; exact h2 x)]
      omega
theorem implValence (n : Int) (es : List E) (v : Int) (hl : es.length ≤ 1048576) : Ep (fun k => impl_Valence.f k n es v) (· = valG n es v) := by
  simp only [impl_Valence.f, valG]
  refine Ep.ite (fun h => ?_) (fun h => ?_)
  · refine Ep.up ?_
    simp only [impl_Valence.j0]
    refine Ep.pos trivial (Ep.now ?_)
    rw [if_neg (by omega)]
  · refine Ep.up ?_
    simp only [impl_Valence.j0]
    refine Ep.ite (fun h2 => Ep.now ?_) (fun h2 => ?_)
    · have : v ≥ n := by simpa using h2
      rw [if_neg (by omega)]
    · have : ¬ v ≥ n := by simpa using h2
      refine (implVal_loop v es hl es.length 0 0 (by omega) (by omega) (by omega)).mono ?_
      rintro _ rfl
      rw [if_pos (by omega), List.drop_zero]
      omega
end Go.Proofs.Ytjecgolakaiddaa.Cf
end

section
namespace Go.Proofs.Ytjecgolakaiddaa.P
open Go.RowKit Go.Proofs.YtjecgolakaiddaaW.PrintWords Go.Proofs.YtjecgolakaiddaaW.PrintLast Go.Proofs.YtjecgolakaiddaaW.PrintMore
attribute [local go_sem] max2_int min2_int max_two min_two max_three min_three max_four min_four
set_option linter.unusedVariables false
set_option linter.unusedSimpArgs false
def spec_IsStable.f (k : Nat) (a0_0 : Int) (l0_1 : List (S70)) (l1 : List Int) (a2 : Int) : Option (Bool) := (spec_PileOk.f k a0_0 l0_1 l1 a2).bind fun t102 => (if t102 = true then ((spec_l10Unstable.f k a0_0 l0_1 l1 a2).bind fun t103 => (some (decide (t103 < 0)))) else (some false))
theorem spec_IsStable.mono : ∀ a0 a1 a2 a3 k, LeO (spec_IsStable.f k a0 a1 a2 a3) (spec_IsStable.f (k + 1) a0 a1 a2 a3) := by
  intro a0 a1 a2 a3 k; unfold spec_IsStable.f
  repeat' first
      | (with_reducible exact spec_PileOk.mono _ _ _ _ _)
      | (with_reducible exact spec_l10Unstable.mono _ _ _ _ _)
      | (with_reducible exact LeO.refl _)
      | (with_reducible exact LeO.none _)
      | (with_reducible refine LeO.ite ?_ ?_)
      | (with_reducible refine LeO.bind ?_ (fun _ => ?_))
      | exact spec_PileOk.mono _ _ _ _ _
      | exact spec_l10Unstable.mono _ _ _ _ _
      | exact LeO.none _
      | refine LeO.ite ?_ ?_
      | refine LeO.bind ?_ (fun _ => ?_)
end Go.Proofs.Ytjecgolakaiddaa.P
end

section
namespace Go.Proofs.Ytjecgolakaiddaa.P
open Go.RowKit Go.Proofs.YtjecgolakaiddaaW.PrintWords Go.Proofs.YtjecgolakaiddaaW.PrintLast Go.Proofs.YtjecgolakaiddaaW.PrintMore
attribute [local go_sem] max2_int min2_int max_two min_two max_three min_three max_four min_four
set_option linter.unusedVariables false
set_option linter.unusedSimpArgs false
def impl_IsStable.f (k : Nat) (a0_0 : Int) (l0_1 : List (S70)) (l1 : List Int) (a2 : Int) : Option (Bool) := (impl_PileOk.f k a0_0 l0_1 l1 a2).bind fun t102 => (if t102 = true then ((impl_unstable.f k a0_0 l0_1 l1 a2).bind fun t103 => (some (decide (t103 < 0)))) else (some false))
theorem impl_IsStable.mono : ∀ a0 a1 a2 a3 k, LeO (impl_IsStable.f k a0 a1 a2 a3) (impl_IsStable.f (k + 1) a0 a1 a2 a3) := by
  intro a0 a1 a2 a3 k; unfold impl_IsStable.f
  repeat' first
      | (with_reducible exact impl_PileOk.mono _ _ _ _ _)
      | (with_reducible exact impl_unstable.mono _ _ _ _ _)
      | (with_reducible exact LeO.refl _)
      | (with_reducible exact LeO.none _)
      | (with_reducible refine LeO.ite ?_ ?_)
      | (with_reducible refine LeO.bind ?_ (fun _ => ?_))
      | exact impl_PileOk.mono _ _ _ _ _
      | exact impl_unstable.mono _ _ _ _ _
      | exact LeO.none _
      | refine LeO.ite ?_ ?_
      | refine LeO.bind ?_ (fun _ => ?_)
end Go.Proofs.Ytjecgolakaiddaa.P
end

section
namespace Go.Proofs.Ytjecgolakaiddaa.Cf
set_option linter.unusedVariables false
set_option linter.unusedSimpArgs false
open Go.RowKit Go.Proofs.YtjecgolakaiddaaW.PrintWords Go.Proofs.Ytjecgolakaiddaa.P
/-- The first unstable vertex, from one on; or -1. -/
def unst (n : Int) (es : List E) (q : Int) (p : List Int) : Nat → Nat → Int
  | 0, _ => -1
  | d + 1, i => if (i : Int) = q then unst n es q p d (i + 1) else if rd p i ≥ valG n es i then i else unst n es q p d (i + 1)
theorem specUnst_l0 (n : Int) (es : List E) (q : Int) (p : List Int) (hel : es.length ≤ 1048576) (hl : p.length ≤ 1048576) : ∀ (d i : Nat), i + d = p.length → Ep (fun k => spec_l10Unstable.l0 k q p (p.length : Int) (i : Int) n es) (· = unst n es q p d i) := by
  intro d
  induction d with
  | zero =>
    intro i hi
    refine Ep.up ?_
    simp only [spec_l10Unstable.l0]
    exact Ep.neg (by omega) (Ep.now rfl)
  | succ d ih =>
    intro i hi
    refine Ep.up ?_
    simp only [spec_l10Unstable.l0]
    refine Ep.pos (by omega) (Ep.pos (by omega) (Ep.pos (by omega) ?_))
    rw [wrap_succ (by omega)]
    unfold unst
    refine Ep.ite (fun h => ?_) (fun h => ?_)
    · rw [if_pos h]
      exact ih (i + 1) (by omega)
    · rw [if_neg h]
      refine Ep.bind (specValence n es i hel) ?_
      rintro _ rfl
      refine Ep.ite (fun h2 => Ep.now ?_) (fun h2 => ?_)
      · rw [if_pos h2]
      · rw [if_neg h2]
        exact ih (i + 1) (by omega)
theorem specUnst (n : Int) (es : List E) (p : List Int) (q : Int) (hel : es.length ≤ 1048576) (hl : p.length ≤ 1048576) : Ep (fun k => spec_l10Unstable.f k n es p q) (· = unst n es q p p.length 0) := by
  have := specUnst_l0 n es q p hel hl p.length 0 (by omega)
  simp only [spec_l10Unstable.f]
  exact this
theorem implUnst_l0 (n : Int) (es : List E) (q : Int) (p : List Int) (hel : es.length ≤ 1048576) (hl : p.length ≤ 1048576) : ∀ (d i : Nat), i + d = p.length → Ep (fun k => impl_unstable.l0 k q p (p.length : Int) (i : Int) n es) (· = unst n es q p d i) := by
  intro d
  induction d with
  | zero =>
    intro i hi
    refine Ep.up ?_
    simp only [impl_unstable.l0]
    exact Ep.neg (by omega) (Ep.now rfl)
  | succ d ih =>
    intro i hi
    refine Ep.up ?_
    simp only [impl_unstable.l0]
    refine Ep.pos (by omega) (Ep.pos (by omega) (Ep.pos (by omega) ?_))
    rw [wrap_succ (by omega)]
    unfold unst
    refine Ep.ite (fun h => ?_) (fun h => ?_)
    · rw [if_pos h]
      exact ih (i + 1) (by omega)
    · rw [if_neg h]
      refine Ep.bind (implValence n es i hel) ?_
      rintro _ rfl
      refine Ep.ite (fun h2 => Ep.now ?_) (fun h2 => ?_)
      · rw [if_pos h2]
      · rw [if_neg h2]
        exact ih (i + 1) (by omega)
theorem implUnst (n : Int) (es : List E) (p : List Int) (q : Int) (hel : es.length ≤ 1048576) (hl : p.length ≤ 1048576) : Ep (fun k => impl_unstable.f k n es p q) (· = unst n es q p p.length 0) := by
  have := implUnst_l0 n es q p hel hl p.length 0 (by omega)
  simp only [impl_unstable.f]
  exact this
end Go.Proofs.Ytjecgolakaiddaa.Cf
end

section
namespace Go.Proofs.Ytjecgolakaiddaa.Cf
set_option linter.unusedVariables false
set_option linter.unusedSimpArgs false
theorem sumE_bd {es : List E} {f : E → Int} {S : Int} (h : ∀ e ∈ es, -S ≤ f e ∧ f e ≤ S) : -(es.length * S) ≤ sumE es f ∧ sumE es f ≤ es.length * S := by
  induction es with
  | nil => simp [sumE]
  | cons e r ih =>
    rw [sumE_cons]
    have := ih (fun x hx => h x (List.mem_cons_of_mem _ hx))
    have := h e List.mem_cons_self
    rw [List.length_cons, Int.natCast_succ, Int.add_mul, Int.one_mul]
    omega
theorem lap_bd {n : Int} {es : List E} (hes : ∀ e ∈ es, EOk n e) (hel : es.length ≤ 12) {s : Int → Int} {L S : Int} (hS : 0 ≤ S) (h : ∀ v, 0 ≤ v → v < n → L ≤ s v ∧ s v ≤ L + S) (w : Int) : -(12 * S) ≤ lap es s w ∧ lap es s w ≤ 12 * S := by
  have h1 := sumE_bd (es := es) (f := lapE s w) (S := S) (fun e he => by
    have hk := hes e he
    unfold EOk at hk
    have h0 := h e.f0 (by omega) (by omega)
    have h1 := h e.f1 (by omega) (by omega)
    unfold lapE
    by_cases a : e.f0 = w
    · rw [if_pos a, if_neg (by omega)]; omega
    · rw [if_neg a]
      by_cases b : e.f1 = w
      · rw [if_pos b]; omega
      · rw [if_neg b]; omega)
  have h2 : (es.length : Int) * S ≤ 12 * S := Int.mul_le_mul_of_nonneg_right (by omega) hS
  unfold lap
  omega
theorem sumN_le_const {n : Nat} {f : Nat → Int} {c : Int} (h : ∀ i, i < n → f i ≤ c) : sumN n f ≤ n * c := by
  rw [← sumN_const]
  exact sumN_le h
theorem one_nat (v t : Int) (i : Nat) : one v t (i : Int) = if (i : Int) = v then t else 0 := rfl
theorem sumN_one' {n : Nat} {v : Int} (h0 : 0 ≤ v) (h1 : v < n) (t : Int) : sumN n (fun i => one v t (i : Int)) = t := by
  have := sumN_one (n := n) v.toNat (by omega) t
  refine (sumN_congr fun i _ => ?_).trans this
  rw [one_nat]
  have : ((i : Int) = v) ↔ i = v.toNat := by omega
  simp only [this]
theorem Legal.keeps1 {n : Nat} {es : List E} (hes : ∀ e ∈ es, EOk n e) {q : Int} {p s : Int → Int} (h : Legal n es q p s) : ∀ v : Int, 0 ≤ v → v < n → 0 < s v → 0 ≤ p v - lap es s v := by
  induction h with
  | zero => intro v _ _ h; exact absurd h (by simp)
  | @step s u hl h0 h1 hq hv ih =>
    intro w k0 k1 hs
    rw [lap_add]
    by_cases e : w = u
    · subst e
      rw [lap_one_self hes]
      omega
    · rw [lap_one_ne hes e]
      have := mult_nonneg es u w
      have := ih w k0 k1 (by
        have hs' : 0 < s w + one u 1 w := hs
        unfold one at hs'
        rw [if_neg e] at hs'
        omega)
      omega
theorem Legal.bound1 {n : Nat} {es : List E} (hes : ∀ e ∈ es, EOk n e) (hj : Joined n es) {q : Int} (hq : 0 ≤ q ∧ q < n) {p s : Int → Int} (h : Legal n es q p s) {c : Int} (hc : 0 ≤ c) (hpc : ∀ v : Int, 0 ≤ v → v < n → v ≠ q → p v ≤ c) : ∀ v : Int, 0 ≤ v → v < n → s v ≤ n * (n * c) := by
  refine script_bd hes hj hq hc (by rw [h.nonneg.2]; exact Int.le_refl _) ?_
  intro v h0 h1 hs
  have hne : v ≠ q := by rintro rfl; rw [h.nonneg.2] at hs; omega
  have := h.keeps1 hes v h0 h1 hs
  have := hpc v h0 h1 hne
  omega
theorem sq_le {n : Nat} (hn : n ≤ 6) {c : Int} (hc : 0 ≤ c) : (n : Int) * (n * c) ≤ 36 * c := by
  have h1 : (n : Int) * c ≤ 6 * c := Int.mul_le_mul_of_nonneg_right (by omega) hc
  have h2 : (n : Int) * (n * c) ≤ n * (6 * c) := Int.mul_le_mul_of_nonneg_left h1 (by omega)
  have h3 : (n : Int) * (6 * c) ≤ 6 * (6 * c) := Int.mul_le_mul_of_nonneg_right (by omega) (by omega)
  omega
/-- A legal script of no more than 36 c a vertex: all in all 216 c. -/
theorem Legal.small {n : Nat} (hn : n ≤ 6) {es : List E} (hes : ∀ e ∈ es, EOk n e) (hj : Joined n es) {q : Int} (hq : 0 ≤ q ∧ q < n) {p s : Int → Int} (h : Legal n es q p s) {c : Int} (hc : 0 ≤ c) (hpc : ∀ v : Int, 0 ≤ v → v < n → v ≠ q → p v ≤ c) :
    (∀ v : Int, 0 ≤ v → v < n → 0 ≤ s v ∧ s v ≤ 36 * c) ∧ sumN n (fun i => s (i : Int)) ≤ 216 * c := by
  have h36 := sq_le hn hc
  have hb : ∀ v : Int, 0 ≤ v → v < n → 0 ≤ s v ∧ s v ≤ 36 * c := fun v h0 h1 => by
    have := h.bound1 hes hj hq hc hpc v h0 h1
    have := h.nonneg.1 v
    omega
  refine ⟨hb, ?_⟩
  have h1 := sumN_le_const (n := n) (f := fun i => s (i : Int)) (c := 36 * c) (fun i hi => (hb i (by omega) (by omega)).2)
  have h2 : (n : Int) * (36 * c) ≤ 6 * (36 * c) := Int.mul_le_mul_of_nonneg_right (by omega) (by omega)
  omega
theorem sum_grow {n : Nat} {s : Int → Int} {v : Int} (h0 : 0 ≤ v) (h1 : v < n) (t : Int) : sumN n (fun i => (fun w => s w + one v t w) (i : Int)) = sumN n (fun i => s (i : Int)) + t := by
  rw [sumN_add n (fun i => s (i : Int)) (fun i => one v t (i : Int)), sumN_one' h0 h1]
structure Sets (n : Nat) (es : List E) (q : Int) (d u : Int → Int) : Prop where
  pos : ∀ w, 0 ≤ u w
  at_q : u q = 0
  keeps : ∀ v : Int, 0 ≤ v → v < n → v ≠ q → 0 ≤ d v - lap es u v
theorem Sets.zero {n : Nat} {es : List E} {q : Int} {d : Int → Int} (h : ∀ v : Int, 0 ≤ v → v < n → v ≠ q → 0 ≤ d v) : Sets n es q d (fun _ => 0) where
  pos := fun _ => Int.le_refl _
  at_q := rfl
  keeps := fun v h0 h1 h2 => by
    rw [lap_const (c := 0) (fun _ _ => ⟨rfl, rfl⟩)]
    have := h v h0 h1 h2
    omega
end Go.Proofs.Ytjecgolakaiddaa.Cf
end

section
namespace Go.Proofs.Ytjecgolakaiddaa.Cf
set_option linter.unusedVariables false
set_option linter.unusedSimpArgs false
open Go.Proofs.YtjecgolakaiddaaW.PrintWords
theorem rd_set {x : List Int} {i : Int} (h0 : 0 ≤ i) (h1 : i < x.length) (y : Int) {w : Int} (hw : 0 ≤ w) : rd (x.set i.toNat y) w = if w = i then y else rd x w := by
  obtain ⟨a, rfl⟩ := Int.eq_ofNat_of_zero_le h0
  obtain ⟨b, rfl⟩ := Int.eq_ofNat_of_zero_le hw
  simp only [Int.ofNat_eq_natCast, Int.toNat_natCast, rd_nat, List.getD_eq_getElem?_getD] at *
  by_cases c : b = a
  · subst c
    rw [List.getElem?_set_self (by omega), if_pos rfl]
    rfl
  · rw [List.getElem?_set_ne (fun y => c y.symm), if_neg (by omega)]
/-- A list's numbers lie between -B and B. -/
def Bd (x : List Int) (B : Int) : Prop := ∀ w : Int, 0 ≤ w → w < x.length → -B ≤ rd x w ∧ rd x w ≤ B
theorem Bd.mono {x : List Int} {B B' : Int} (h : Bd x B) (hB : B ≤ B') : Bd x B' := fun w h0 h1 => by have := h w h0 h1; omega
/-- x is d, less what the script s takes over these edges. -/
def Less (es : List E) (d : List Int) (s : Int → Int) (x : List Int) : Prop := x.length = d.length ∧ ∀ w : Int, 0 ≤ w → w < d.length → rd x w = rd d w - lap es s w
theorem lap_snoc (es : List E) (e : E) (s : Int → Int) (w : Int) : lap (es ++ [e]) s w = lap es s w + lapE s w e := by
  induction es with
  | nil => simp [lap, sumE]
  | cons a r ih => rw [List.cons_append, lap_cons, ih, lap_cons]; omega
theorem lap_take {es : List E} {i : Nat} (h : i < es.length) (s : Int → Int) (w : Int) : lap (es.take (i + 1)) s w = lap (es.take i) s w + lapE s w es[i] := by
  rw [List.take_succ_eq_append_getElem h, lap_snoc]
/-- The list c tells s on the first n numbers. -/
def Rep (n : Nat) (c : List Int) (s : Int → Int) : Prop := c.length = n ∧ ∀ w : Int, 0 ≤ w → w < n → rd c w = s w
theorem Rep.ext {n : Nat} {c c' : List Int} {s : Int → Int} (h : Rep n c s) (h' : Rep n c' s) : c = c' := by
  apply List.ext_getElem (by rw [h.1, h'.1])
  intro i h1 h2
  have e := h.2 i (by omega) (by have := h.1; omega)
  have e' := h'.2 i (by omega) (by have := h.1; omega)
  rw [rd_get h1] at e
  rw [rd_get h2] at e'
  rw [e, e']
theorem Rep.congr {n : Nat} {c : List Int} {s t : Int → Int} (h : Rep n c s) (he : ∀ w : Int, 0 ≤ w → w < n → s w = t w) : Rep n c t := ⟨h.1, fun w h0 h1 => (h.2 w h0 h1).trans (he w h0 h1)⟩
theorem Rep.self {n : Nat} {c : List Int} (h : c.length = n) : Rep n c (rd c) := ⟨h, fun _ _ _ => rfl⟩
theorem Rep.set {n : Nat} {c : List Int} {s : Int → Int} (h : Rep n c s) {v : Int} (h0 : 0 ≤ v) (h1 : v < n) (y : Int) : Rep n (c.set v.toNat y) (fun w => if w = v then y else s w) := by
  refine ⟨by rw [List.length_set]; exact h.1, fun w w0 w1 => ?_⟩
  rw [rd_set h0 (by rw [h.1]; exact h1) y w0, h.2 w w0 w1]
theorem rd_replicate (n : Nat) (v : Int) : rd (List.replicate n (0 : Int)) v = 0 := by
  unfold rd
  rw [List.getD_eq_getElem?_getD]
  by_cases h : v.toNat < n
  · rw [List.getElem?_replicate_of_lt h]; rfl
  · rw [List.getElem?_eq_none (by simp; omega)]; rfl
theorem Rep.zero (n : Nat) : Rep n (List.replicate n (0 : Int)) (fun _ => 0) := ⟨by simp, fun w _ _ => rd_replicate n w⟩
theorem Rep.bd {n : Nat} {c : List Int} {s : Int → Int} {B : Int} (h : Rep n c s) (hb : ∀ w : Int, 0 ≤ w → w < n → -B ≤ s w ∧ s w ≤ B) : Bd c B := fun w h0 h1 => by
  rw [h.2 w h0 (by have := h.1; omega)]
  exact hb w h0 (by have := h.1; omega)
theorem Less.rep {n : Nat} {es : List E} {d x : List Int} {s : Int → Int} (hd : d.length = n) (h : Less es d s x) : Rep n x (fun w => rd d w - lap es s w) := ⟨h.1.trans hd, fun w h0 h1 => h.2 w h0 (by omega)⟩
/-- What toppling off q ends in, and how often each vertex toppled. -/
def Settled (n : Nat) (es : List E) (q : Int) (p : List Int) (r : List Int × List Int) : Prop :=
  ∃ s : Int → Int, Legal n es q (rd p) s ∧ Stable n es q (fun v => rd p v - lap es s v) ∧ Rep n r.1 (fun w => if w = q then 0 else rd p w - lap es s w) ∧ Rep n r.2 s
theorem Settled.unique {n : Nat} {es : List E} {q : Int} {p : List Int} {r r' : List Int × List Int} (h : Settled n es q p r) (h' : Settled n es q p r') : r = r' := by
  obtain ⟨s, h1, h2, h3, h4⟩ := h
  obtain ⟨t, k1, k2, k3, k4⟩ := h'
  obtain rfl := h1.unique k1 h2 k2
  exact Prod.ext (h3.ext k3) (h4.ext k4)
open Classical in
noncomputable def settleS (n : Nat) (es : List E) (q : Int) (p : List Int) : List Int × List Int := if h : ∃ r, Settled n es q p r then Classical.choose h else ([], [])
theorem Settled.eq {n : Nat} {es : List E} {q : Int} {p : List Int} {r : List Int × List Int} (h : Settled n es q p r) : r = settleS n es q p := by
  have he : ∃ r, Settled n es q p r := ⟨r, h⟩
  unfold settleS
  rw [dif_pos he]
  exact h.unique (Classical.choose_spec he)
theorem settleS_len {n : Nat} (es : List E) (q : Int) (p : List Int) (hn : n ≤ 6) : (settleS n es q p).1.length ≤ 6 ∧ (settleS n es q p).2.length ≤ 6 := by
  unfold settleS
  split
  · rename_i he
    obtain ⟨s, _, _, h3, h4⟩ := Classical.choose_spec he
    rw [h3.1, h4.1]
    exact ⟨hn, hn⟩
  · simp
end Go.Proofs.Ytjecgolakaiddaa.Cf
end

