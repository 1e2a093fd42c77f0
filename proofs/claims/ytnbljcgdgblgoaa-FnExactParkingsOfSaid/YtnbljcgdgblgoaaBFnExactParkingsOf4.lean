/- A part of the proof of FnExactParkingsOf. -/
import Derived.Test.YtnbljcgdgblgoaaBFnExactParkingsOf3
import Derived.Test.YtnbljcgdgblgoaaBFnExactParkingsOf0
import Derived.Test.YtnbljcgdgblgoaaBFnExactParkingsOf1
import Derived.Test.YtnbljcgdgblgoaaBFnExactParkingsOf2
import Derived.Deep.Slices
import Derived.Lib.SmallJoins
import Derived.ChangeSame
import Derived.Test.YtnbljcgdgblgoaaRows
import Derived.JoinedOf
import Derived.KernelRfl
section
namespace Go.Proofs.Ytnbljcgdgblgoaa.P
open Go.RowKit Go.Proofs.YtnbljcgdgblgoaaW.PrintWords Go.Proofs.YtnbljcgdgblgoaaW.PrintLast Go.Proofs.YtnbljcgdgblgoaaW.PrintMore
attribute [local go_sem] max2_int min2_int max_two min_two max_three min_three max_four min_four
set_option linter.unusedVariables false
set_option linter.unusedSimpArgs false
def impl_edgesOf.l0 : Nat → List (S57) → List Int → Int → Int → Int → List (S57) → Option ((List (S57)))
 | 0, _, _, _, _, _, _ => none
 | k + 1, x5, x8, x9, x10, x102000, x102001 => if x10 < x9 then (if 0 ≤ x10 then (if x10 < (x8.length : Int) then (if 0 ≤ (rd x8 x10) then (if (rd x8 x10) < (x102001.length : Int) then (if x5.length < 8796093022208 then (impl_edgesOf.l0 k (x5 ++ [(⟨(rd_T57 x102001 (rd x8 x10)).f0, (rd_T57 x102001 (rd x8 x10)).f1⟩ : S57)]) x8 x9 (wrap64 (x10 + 1)) x102000 x102001) else (none)) else (none)) else (none)) else (none)) else (none)) else (some x5)
def impl_edgesOf.f (k : Nat) (a0_0 : Int) (l0_1 : List (S57)) (l1 : List Int) : Option ((List (S57))) := impl_edgesOf.l0 k ([] : List (S57)) l1 (l1.length : Int) 0 a0_0 l0_1
theorem impl_edgesOf.mono_l : ∀ k, (∀ y0 y1 y2 y3 y4 y5, LeO (impl_edgesOf.l0 k y0 y1 y2 y3 y4 y5) (impl_edgesOf.l0 (k + 1) y0 y1 y2 y3 y4 y5))
 | 0 => fun _ _ _ _ _ _ r h => by simp [impl_edgesOf.l0] at h
 | k + 1 => by
  have ih0 := impl_edgesOf.mono_l k
  ·intro y0 y1 y2 y3 y4 y5
   unfold impl_edgesOf.l0
   exact zm0
theorem impl_edgesOf.mono : ∀ a0 a1 a2 k, LeO (impl_edgesOf.f k a0 a1 a2) (impl_edgesOf.f (k + 1) a0 a1 a2) := by
 intro a0 a1 a2 k; have ih0 := impl_edgesOf.mono_l k; unfold impl_edgesOf.f; exact zm0
set_option maxHeartbeats 8000000 in
set_option maxRecDepth 100000 in
theorem impl_edgesOf.calls (k : Nat) (a0_0 : Int) (A0_1 : Option Addr) (c0_1 : Nat) (l0_1 : List (S57)) (A1 : Option Addr) (c1 : Nat) (l1 : List Int) (r : List (S57)) (w : World) (hr0_1 : Kd.C k57 w A0_1 l0_1.length l0_1) (hc0_1 : l0_1.length ≤ c0_1) (hr1 : Kd.C (Kd.int .i64) w A1 l1.length l1) (hc1 : l1.length ≤ c1) (h : impl_edgesOf.f k a0_0 l0_1 l1 = some r) :
  Calls Try.prog 53 #[.agg #[.int .i64 a0_0, .slice A0_1 l0_1.length c0_1], .slice A1 l1.length c1] w fun e w' => ∃ v0_ : Value, e = .returned (v0_) ∧ Kd.R k57 57 w' w.heap.size (fun _ => True) v0_ r ∧ Below w.heap.size w w' := by
 have hu25 := Try.underlying25; have hu57 := Try.underlying57; have HR0_1 := Aside0.mk hr0_1; have HC0_1 := Aside0.mk hc0_1; clear hr0_1 hc0_1; have HR1 := Aside0.mk hr1; have HC1 := Aside0.mk hc1; clear hr1 hc1; have HB := Aside0.mk (Below.refl w.heap.size w); have H : (impl_edgesOf.l0 k ([] : List (S57)) l1 (l1.length : Int) 0 a0_0 l0_1) = some r := h; clear h; have H' := Aside0.mk H; clear H; go_enter Try.func53, Try.ntmps53; (go_wp2_with (first | ((with_reducible refine gate_dst (N := 2) rfl ?_); refine box_event ?hg (N := 2) ?hd (cs := #[.int .i64 a0_0, .slice A0_1 l0_1.length c0_1]) (t := 25) ?hr ?_; (case hd => rfl); (case hg => rfl); (case hr => exact zz9); intro gb101 hg w3 hbox hb; have n_ := zA4 (below_step zz1 hb) hbox (zz10 : w.heap.size ≤ gb101) (zz10 : w.heap.size ≤ gb101); clear HB; obtain ⟨HB, BK101, GW101, GE101⟩ := n_; clear hb hbox hg))); (go_loopg [5, 10] k (fun kq v5 v10 w' => ∃ (x5_1 : List (S57)) (x10_1 : Int), v10 = .int .i64 x10_1 ∧ Aside0 (impl_edgesOf.l0 kq x5_1 l1 (l1.length : Int) x10_1 a0_0 l0_1 = some r) ∧ Aside0 (kq ≤ k) ∧ Aside0 (Kd.R k57 57 w' w.heap.size (fun _ => True) v5 x5_1) ∧ Aside0 (w'.heap[gb101]? = some (.cells #[.int .i64 a0_0, (.slice A0_1 l0_1.length c0_1)] 25 (0, 0))) ∧ Aside0 (Below w.heap.size w w'))); case atStart => exact ⟨(([] : List (S57))), (0), zz5, H', ⟨Nat.le_refl _⟩, ⟨zz42⟩, ⟨zz2⟩, ⟨zz0⟩⟩
 case round =>
  clear H'; (try clear c1); (try clear p2); obtain ⟨x5_1, x10_1, rfl, HA, HK1, HO_5, BK101, HB⟩ := hrel
  cases gk with
  | zero => exact absurd HA.out (by simp [impl_edgesOf.l0])
  | succ k1 =>
   have H := HA.out; clear HA; simp only [impl_edgesOf.l0] at H; by_cases c4 : x10_1 < (l1.length : Int); rotate_left
   ·rw [if_neg c4] at H; have c4b0 := decide_eq_false c4; clear c4; obtain rfl := Option.some.inj H; go_wp2; go_ret; exact ⟨_, zz7, zz22, zz0⟩
   rw [if_pos c4] at H; have c4b0 := decide_eq_true c4; clear c4; by_cases c5 : 0 ≤ x10_1; rotate_left
   ·rw [if_neg c5] at H; exact absurd H (by simp)
   rw [if_pos c5] at H; have c5b0 := decide_eq_true c5; clear c5; by_cases c6 : x10_1 < (l1.length : Int); rotate_left
   ·rw [if_neg c6] at H; exact absurd H (by simp)
   rw [if_pos c6] at H; have c6b0 := decide_eq_true c6; clear c6; by_cases c7 : 0 ≤ (rd l1 x10_1); rotate_left
   ·rw [if_neg c7] at H; exact absurd H (by simp)
   rw [if_pos c7] at H; have c7b0 := decide_eq_true c7; clear c7; by_cases c8 : (rd l1 x10_1) < (l0_1.length : Int); rotate_left
   ·rw [if_neg c8] at H; exact absurd H (by simp)
   rw [if_pos c8] at H; have c8b0 := decide_eq_true c8; clear c8; by_cases c9 : x5_1.length < 8796093022208; rotate_left
   ·rw [if_neg c9] at H; exact absurd H (by simp)
   rw [if_pos c9] at H; have LMc9 := Aside0.mk c9; clear c9; obtain ⟨y104, hy_⟩ : ∃ y_ : List (S57), y_ = (x5_1 ++ [(⟨(rd_T57 l0_1 (rd l1 x10_1)).f0, (rd_T57 l0_1 (rd l1 x10_1)).f1⟩ : S57)]) := ⟨_, rfl⟩; (replace H : (impl_edgesOf.l0 k1 y104 l1 (l1.length : Int) (wrap64 (x10_1 + 1)) a0_0 l0_1) = some r := zzY); have Ny104 := Aside0.mk hy_; clear hy_; have H' := Aside0.mk H; clear H; have p102 : 0 ≤ (x10_1 : Int) := of_decide_eq_true zz3; have q102 : x10_1 < (l1.length : Int) := of_decide_eq_true zz3; obtain ⟨ad102, e102, hx102_0⟩ := Kd.at_int HR1.out x10_1 p102 q102; cases e102; replace hx102_0 := (HB.out.cell (World.block_lt_of_cell? w _ hx102_0)).trans hx102_0; replace p102 := eq_true p102; replace q102 := eq_true q102; have hcz10_0 := zC20 BK101; have hcz10_1 := zC21 BK101; have hfz10_0 := blk_frozen BK101.out 0; have hfz10_1 := blk_frozen BK101.out 1; have p103 : 0 ≤ ((rd l1 x10_1) : Int) := of_decide_eq_true zz3; have q103 : (rd l1 x10_1) < (l0_1.length : Int) := of_decide_eq_true zz3; obtain ⟨ad103, e103, hx103_0, hx103_1⟩ := at_T57 HR0_1.out (rd l1 x10_1) p103 q103; cases e103; replace hx103_0 := (HB.out.cell (World.block_lt_of_cell? w _ hx103_0)).trans hx103_0; replace hx103_1 := (HB.out.cell (World.block_lt_of_cell? w _ hx103_1)).trans hx103_1; replace p103 := eq_true p103; replace q103 := eq_true q103; (go_wp2_with (first | ((with_reducible refine gate_builtin (b := .append) (xs := #[.tmp 14, .tmp 20]) rfl ?_); at_builtin; refine Kd.R_append k57 (w0 := w) w.heap.size rfl (.tmp 14) (.tmp 20) 23 57 (.agg #[(.int .i64 0), (.int .i64 0)]) 16 rfl Try.underlying23 info57 rfl (by decide) (by omega) u5 x5_1 (⟨(rd_T57 l0_1 (rd l1 x10_1)).f0, (rd_T57 l0_1 (rd l1 x10_1)).f1⟩ : S57) [.int .i64 ((rd_T57 l0_1 (rd l1 x10_1)).f0), .int .i64 ((rd_T57 l0_1 (rd l1 x10_1)).f1)] (fun _ => True) (fun _ => False) rfl rfl ?aP (fun _ hk => hk.elim) ?aF ?aO ?aB ?aS ?aL ?_; (case aP => exact k57_mkM _ _ _ (⟨(rd_T57 l0_1 (rd l1 x10_1)).f0, (rd_T57 l0_1 (rd l1 x10_1)).f1⟩ : S57)); (case aB => exact zz0); (case aF => exact (fun _ _ => trivial)); (case aO => exact zz22); (case aS => exact (below_size zz0)); (case aL => have := LMc9.out; omega); intro v105 w11 ho hb hg hat; rw [← Ny104.out] at ho; have n_ := zA3 (blk_grown (g := gb101) (o := .cells #[.int .i64 a0_0, .slice (some ad103) l0_1.length c0_1] 25 (0, 0)) zz2 hg (Kd.R_ne HO_5.out BK101.out (by decide))) hb ho; clear BK101 HB HO_5; obtain ⟨BK101, HB, HO106⟩ := n_; clear ho hb hg hat))); go_roundg k1; (case measure => have := HK1.out; omega); case rel => exact ⟨(y104), (wrap64 (x10_1 + 1)), zz5, H', ⟨zz36⟩, ⟨by (with_reducible repeat (first | apply Kd.R_alloc | apply Kd.R_drewN | apply Kd.R_drew)); exact HO106.out⟩, ⟨zz2⟩, ⟨zz0⟩⟩
mutual
def impl_IsTree.j0 : Nat → List Int → Bool → Int → List (S57) → Option (Bool)
 | 0, _, _, _, _ => none
 | k + 1, x1, x25, x102000, x102001 => if x25 = true then (some false) else (impl_IsTree.l0 k x1 1 x102000 x102001)
def impl_IsTree.l0 : Nat → List Int → Int → Int → List (S57) → Option (Bool)
 | 0, _, _, _, _ => none
 | k + 1, x1, x5, x102000, x102001 => if x5 < (x1.length : Int) then (if 0 ≤ (wrap64 (x5 - 1)) then (if (wrap64 (x5 - 1)) < (x1.length : Int) then (if 0 ≤ x5 then (if (rd x1 (wrap64 (x5 - 1))) ≥ (rd x1 x5) then (some false) else (impl_IsTree.l0 k x1 (wrap64 (x5 + 1)) x102000 x102001)) else (none)) else (none)) else (none)) else ((impl_edgesOf.f k x102000 x102001 x1).bind fun t106 => ((impl_connected.f k x102000 t106).bind fun t109 => (some t109)))
end
def impl_IsTree.f (k : Nat) (a0_0 : Int) (l0_1 : List (S57)) (l1 : List Int) : Option (Bool) := (impl_GraphOk.f a0_0 l0_1).bind fun t102 => (if t102 = true then (if (l1.length : Int) = (wrap64 (a0_0 - 1)) then ((impl_allWithin.f k l1 0 (wrap64 ((l0_1.length : Int) - 1))).bind fun t103 => (impl_IsTree.j0 k l1 (!t103) a0_0 l0_1)) else (impl_IsTree.j0 k l1 true a0_0 l0_1)) else (impl_IsTree.j0 k l1 true a0_0 l0_1))
theorem impl_IsTree.mono_l : ∀ k, (∀ y0 y1 y2 y3, LeO (impl_IsTree.j0 k y0 y1 y2 y3) (impl_IsTree.j0 (k + 1) y0 y1 y2 y3)) ∧ (∀ y0 y1 y2 y3, LeO (impl_IsTree.l0 k y0 y1 y2 y3) (impl_IsTree.l0 (k + 1) y0 y1 y2 y3))
 | 0 => ⟨fun _ _ _ _ r h => by simp [impl_IsTree.j0] at h, fun _ _ _ _ r h => by simp [impl_IsTree.l0] at h⟩
 | k + 1 => by
  obtain ⟨ih0, ih1⟩ := impl_IsTree.mono_l k
  refine ⟨?_, ?_⟩
  ·intro y0 y1 y2 y3
   unfold impl_IsTree.j0
   exact zm6
  ·intro y0 y1 y2 y3
   unfold impl_IsTree.l0
   exact zm6
theorem impl_IsTree.mono : ∀ a0 a1 a2 k, LeO (impl_IsTree.f k a0 a1 a2) (impl_IsTree.f (k + 1) a0 a1 a2) := by
 intro a0 a1 a2 k; obtain ⟨ih0, ih1⟩ := impl_IsTree.mono_l k; unfold impl_IsTree.f; exact zm6
def impl_IsTree.T6 : Bool × List (List Nat × List Nat) := (true, [([], []), ([], []), ([1], [1]), ([0, 2], [0, 2]), ([3], [3]), ([], []), ([], []), ([5, 6], [5, 6]), ([7], [7]), ([4, 8], [4, 8])])
def impl_IsTree.B6 : List Nat := [0, 0, 2, 7, 15, 0, 0, 96, 224, 511]
theorem impl_IsTree.tab6 : rtab .any (opsOf Try.f15 6) = impl_IsTree.T6 := by kernel_rfl
theorem impl_IsTree.bits6 : waitsOk impl_IsTree.T6.2 impl_IsTree.B6 = true := by kernel_rfl
set_option maxHeartbeats 8000000 in
set_option maxRecDepth 100000 in
theorem impl_IsTree.calls (k : Nat) (a0_0 : Int) (A0_1 : Option Addr) (c0_1 : Nat) (l0_1 : List (S57)) (A1 : Option Addr) (c1 : Nat) (l1 : List Int) (r : Bool) (w : World) (hr0_1 : Kd.C k57 w A0_1 l0_1.length l0_1) (hc0_1 : l0_1.length ≤ c0_1) (hr1 : Kd.C (Kd.int .i64) w A1 l1.length l1) (hc1 : l1.length ≤ c1) (h : impl_IsTree.f k a0_0 l0_1 l1 = some r) :
  Calls Try.prog 15 #[.agg #[.int .i64 a0_0, .slice A0_1 l0_1.length c0_1], .slice A1 l1.length c1] w fun e w' => e = .returned (.bool r) ∧ Below w.heap.size w w' := by
 have hu25 := Try.underlying25; have HR0_1 := Aside0.mk hr0_1; have HC0_1 := Aside0.mk hc0_1; clear hr0_1 hc0_1; have HR1 := Aside0.mk hr1; have HC1 := Aside0.mk hc1; clear hr1 hc1; have HB := Aside0.mk (Below.refl w.heap.size w); have H : ((impl_GraphOk.f a0_0 l0_1).bind fun t102 => (if t102 = true then (if (l1.length : Int) = (wrap64 (a0_0 - 1)) then ((impl_allWithin.f k l1 0 (wrap64 ((l0_1.length : Int) - 1))).bind fun t103 => (impl_IsTree.j0 k l1 (!t103) a0_0 l0_1)) else (impl_IsTree.j0 k l1 true a0_0 l0_1)) else (impl_IsTree.j0 k l1 true a0_0 l0_1))) = some r := h; clear h; have HC3 := Aside0.mk H; clear H; go_enter Try.func15, Try.ntmps15; (go_upto_region 1 with (first | ((with_reducible refine gate_dst (N := 2) rfl ?_); (try (refine gate_guard (by rfl) ?_; dsimp only)); refine box_event ?hg (N := 2) ?hd (cs := #[.int .i64 a0_0, .slice A0_1 l0_1.length c0_1]) (t := 25) ?hr ?_; (case hd => rfl); (case hg => rfl); (case hr => exact zz9); intro gb101 hg w4 hbox hb; have n_ := zA4 (below_step zz1 hb) hbox (zz10 : w.heap.size ≤ gb101) (zz10 : w.heap.size ≤ gb101); clear HB; obtain ⟨HB, BK101, GW101, GE101⟩ := n_; clear hb hbox hg))); (try simp only [Act.put, List.setIfInBounds_toArray, List.set_cons_zero, List.set_cons_succ]); go_cut [25] (fun v25 wc => ∃ (kq : Nat) (x25_2 : Bool), v25 = .bool x25_2 ∧ Aside0 (impl_IsTree.j0 kq l1 x25_2 a0_0 l0_1 = some r) ∧ Aside0 (kq ≤ k) ∧ Aside0 (wc.heap[gb101]? = some (.cells #[.int .i64 a0_0, (.slice A0_1 l0_1.length c0_1)] 25 (0, 0))) ∧ Aside0 (Below w.heap.size w wc))
 case first =>
  have H := HC3.out; clear HC3; replace H := Option.bind_eq_some_iff.mp H; obtain ⟨t102, A50, H⟩ := H; (try dsimp only at H); have A5 := Aside0.mk A50; clear A50; by_cases c6 : t102 = true; rotate_left
  ·replace c6 := Bool.eq_false_iff.mpr c6; subst c6; rw [if_neg (show ¬ (false = true) by decide)] at H; have H' := Aside0.mk H; clear H; have hcz15_0 := zC20 BK101; have hcz15_1 := zC21 BK101; have hfz15_0 := blk_frozen BK101.out 0; have hfz15_1 := blk_frozen BK101.out 1; (go_wp2_with (first | ((with_reducible refine gate_callee (f := 50) rfl ?_); refine goesL_ (some 7) rfl rfl Try.func50 (by kernel_rfl) rfl #[.agg #[.int .i64 a0_0, .slice A0_1 l0_1.length c0_1]] rfl zz4 ?_; (with_reducible refine (impl_GraphOk.calls a0_0 _ _ l0_1 false _ ?side1 ?side2 A5.out).mono ?_); (case side1 => exact zz6); (case side2 => exact HC0_1.out); rintro e w16 ⟨rfl, hb⟩; refine ⟨_, rfl, ?_⟩; have n_ := zA2 (blk_below (g := gb101) (o := .cells #[.int .i64 a0_0, .slice A0_1 l0_1.length c0_1] 25 (0, 0)) zz2 hb) (below_step zz0 hb); clear BK101 HB; obtain ⟨BK101, HB⟩ := n_; clear hb))); (go_meet); case rel => exact ⟨_, (true), zz5, H', ⟨by first | omega | exact Nat.le_refl _⟩, ⟨zz2⟩, ⟨zz0⟩⟩
  subst c6; rw [if_pos rfl] at H; by_cases c7 : (l1.length : Int) = (wrap64 (a0_0 - 1)); rotate_left
  ·rw [if_neg c7] at H; have c7b0 : ((l1.length : Int) == (wrap64 (a0_0 - 1))) = false := beq_eq_false_iff_ne.mpr c7; have c7b1 : ((l1.length : Int) != (wrap64 (a0_0 - 1))) = true := bne_iff_ne.mpr c7; (first | rw [c7b0] | (simp only [i64_w, i32_w]; rw [c7b0]) | skip); have H' := Aside0.mk H; clear H; have hcz12_0 := zC20 BK101; have hcz12_1 := zC21 BK101; have hfz12_0 := blk_frozen BK101.out 0; have hfz12_1 := blk_frozen BK101.out 1; (go_wp2_with (first | ((with_reducible refine gate_callee (f := 50) rfl ?_); refine goesL_ (some 7) rfl rfl Try.func50 (by kernel_rfl) rfl #[.agg #[.int .i64 a0_0, .slice A0_1 l0_1.length c0_1]] rfl zz4 ?_; (with_reducible refine (impl_GraphOk.calls a0_0 _ _ l0_1 true _ ?side1 ?side2 A5.out).mono ?_); (case side1 => exact zz6); (case side2 => exact HC0_1.out); rintro e w13 ⟨rfl, hb⟩; refine ⟨_, rfl, ?_⟩; have n_ := zA2 (blk_below (g := gb101) (o := .cells #[.int .i64 a0_0, .slice A0_1 l0_1.length c0_1] 25 (0, 0)) zz2 hb) (below_step zz0 hb); clear BK101 HB; obtain ⟨BK101, HB⟩ := n_; clear hb; have hcz14_0 := zC20 BK101; have hcz14_1 := zC21 BK101; have hfz14_0 := blk_frozen BK101.out 0; have hfz14_1 := blk_frozen BK101.out 1))); (go_meet); case rel => exact ⟨_, (true), zz5, H', ⟨by first | omega | exact Nat.le_refl _⟩, ⟨zz2⟩, ⟨zz0⟩⟩
  rw [if_pos c7] at H; have c7b0 : ((l1.length : Int) == (wrap64 (a0_0 - 1))) = true := beq_iff_eq.mpr c7; have c7b1 : ((l1.length : Int) != (wrap64 (a0_0 - 1))) = false := bne_eq_false_iff_eq.mpr c7; clear c7; (first | rw [c7b0] | (simp only [i64_w, i32_w]; rw [c7b0]) | skip); replace H := Option.bind_eq_some_iff.mp H; obtain ⟨t103, A80, H⟩ := H; (try dsimp only at H); have A8 := Aside0.mk A80; clear A80; have H' := Aside0.mk H; clear H; have hcz9_0 := zC20 BK101; have hcz9_1 := zC21 BK101; have hfz9_0 := blk_frozen BK101.out 0; have hfz9_1 := blk_frozen BK101.out 1; (go_wp2_with (first | ((with_reducible refine gate_callee (f := 50) rfl ?_); refine goesL_ (some 7) rfl rfl Try.func50 (by kernel_rfl) rfl #[.agg #[.int .i64 a0_0, .slice A0_1 l0_1.length c0_1]] rfl zz4 ?_; (with_reducible refine (impl_GraphOk.calls a0_0 _ _ l0_1 true _ ?side1 ?side2 A5.out).mono ?_); (case side1 => exact zz6); (case side2 => exact HC0_1.out); rintro e w10 ⟨rfl, hb⟩; refine ⟨_, rfl, ?_⟩; have n_ := zA2 (blk_below (g := gb101) (o := .cells #[.int .i64 a0_0, .slice A0_1 l0_1.length c0_1] 25 (0, 0)) zz2 hb) (below_step zz0 hb); clear BK101 HB; obtain ⟨BK101, HB⟩ := n_; clear hb; have hcz11_0 := zC20 BK101; have hcz11_1 := zC21 BK101; have hfz11_0 := blk_frozen BK101.out 0; have hfz11_1 := blk_frozen BK101.out 1) | (go_at_call 51; (with_reducible refine (impl_allWithin.calls k _ _ l1 0 (wrap64 ((l0_1.length : Int) - 1)) t103 _ ?side1 ?side2 A8.out).mono ?_); (case side1 => repeat (first | exact (Kd.C_below HR1.out HB.out) | (with_reducible refine Kd.C_alloc ?_ _) | (with_reducible refine Kd.C_drewN ?_ _) | (with_reducible refine Kd.C_drew ?_))); (case side2 => exact HC1.out); rintro e w' ⟨rfl, ⟨nd, rfl⟩⟩))); (go_meet); case rel => exact ⟨_, (!t103), zz5, H', ⟨by first | omega | exact Nat.le_refl _⟩, ⟨zz2⟩, ⟨zz0⟩⟩
 case rest =>
  clear HC3; (try clear c1); (try clear p2); (try clear c5); (try clear c6); (try clear p6); (try clear c7); (try clear c7b0); (try clear c7b1); (try clear c15); (try clear hcz11_0); (try clear hcz11_1); (try clear hcz12_0); (try clear hcz12_1); (try clear hcz14_0); (try clear hcz14_1); (try clear hcz15_0); (try clear hcz15_1); (try clear hcz9_0); (try clear hcz9_1); (try clear hfz11_0); (try clear hfz11_1); (try clear hfz12_0); (try clear hfz12_1); (try clear hfz14_0); (try clear hfz14_1); (try clear hfz15_0); (try clear hfz15_1); (try clear hfz9_0); (try clear hfz9_1); obtain ⟨kq, x25_2, rfl, HA, HJ2, BK101, HB⟩ := hcut
  cases kq with
  | zero => exact absurd HA.out (by simp [impl_IsTree.j0])
  | succ kj2 =>
   have H := HA.out; clear HA; simp only [impl_IsTree.j0] at H; by_cases c17 : x25_2 = true
   ·subst c17; rw [if_pos rfl] at H; obtain rfl := Option.some.inj H; go_wp2; go_ret; exact ⟨zz7, zz0⟩
   replace c17 := Bool.eq_false_iff.mpr c17; subst c17; rw [if_neg (show ¬ (false = true) by decide)] at H; have H' := Aside0.mk H; clear H; go_wp2; (go_loopg [5] kj2 (fun kq v5 w' => ∃ (x5_2 : Int), v5 = .int .i64 x5_2 ∧ Aside0 (impl_IsTree.l0 kq l1 x5_2 a0_0 l0_1 = some r) ∧ Aside0 (kq ≤ kj2) ∧ Aside0 (w'.heap[gb101]? = some (.cells #[.int .i64 a0_0, (.slice A0_1 l0_1.length c0_1)] 25 (0, 0))) ∧ Aside0 (Below w.heap.size w w'))); case atStart => exact ⟨(1), zz5, H', ⟨Nat.le_refl _⟩, ⟨zz2⟩, ⟨zz0⟩⟩
   case round =>
    clear H'; (try clear c1); (try clear p2); (try clear c5); (try clear c6); (try clear p6); (try clear c7); (try clear c7b0); (try clear c7b1); (try clear c15); (try clear c17); (try clear hcz11_0); (try clear hcz11_1); (try clear hcz12_0); (try clear hcz12_1); (try clear hcz14_0); (try clear hcz14_1); (try clear hcz15_0); (try clear hcz15_1); (try clear hcz9_0); (try clear hcz9_1); (try clear hfz11_0); (try clear hfz11_1); (try clear hfz12_0); (try clear hfz12_1); (try clear hfz14_0); (try clear hfz14_1); (try clear hfz15_0); (try clear hfz15_1); (try clear hfz9_0); (try clear hfz9_1); (try clear p2); (try clear p6); obtain ⟨x5_2, rfl, HA, HK2, BK101, HB⟩ := hrel
    cases gk with
    | zero => exact absurd HA.out (by simp [impl_IsTree.l0])
    | succ k2 =>
     have H := HA.out; clear HA; simp only [impl_IsTree.l0] at H; by_cases c18 : x5_2 < (l1.length : Int); rotate_left
     ·rw [if_neg c18] at H; have c18b0 := decide_eq_false c18; clear c18; replace H := Option.bind_eq_some_iff.mp H; obtain ⟨t106, A260, H⟩ := H; (try dsimp only at H); have A26 := Aside0.mk A260; clear A260; replace H := Option.bind_eq_some_iff.mp H; obtain ⟨t109, A270, H⟩ := H; (try dsimp only at H); have A27 := Aside0.mk A270; clear A270; obtain rfl := Option.some.inj H; (try go_wp2); have n_ := zA2 (blk_drew BK101.out) (below_drew1 HB.out); clear BK101 HB; obtain ⟨BK101, HB⟩ := n_; refine start_ (n := 7) (S := fun w' => w'.cell? ⟨gb101, 0, none⟩ = some (.int .i64 a0_0) ∧ w'.cell? ⟨gb101, 1, none⟩ = some (.slice A0_1 l0_1.length c0_1)) (ds := []) (zM 7 0) (by kernel_rfl) rfl rfl ⟨(blk_cell BK101.out 0).trans rfl, (blk_cell BK101.out 1).trans rfl⟩ (fun hHeld => ?_); generalize wr.drew = w28 at BK101 HB hHeld ⊢; refine pure_ (i := 0) (N := some 42) (v := ?_) (a' := ?_) (zM 7 1) rfl rfl (by kernel_rfl) (fun _ _ _ h => h) (Or.inl ⟨by rfl, ?_⟩) ?_ ?_; rotate_left
      ·intro w'; exact zzT
      rotate_left
      ·exact zzS
      refine pure_ (i := 3) (N := some 45) (v := ?_) (a' := ?_) (zM 7 9) rfl rfl (by kernel_rfl) (fun _ _ _ h => h) (Or.inl ⟨by rfl, ?_⟩) ?_ ?_; rotate_left
      ·intro w'; exact zzT
      rotate_left
      ·exact zzS
      refine take_ (i := 1) (N := some 43) (v := ?_) (a' := ?_) (zM 7 11) rfl rfl (by kernel_rfl) (fun _ _ _ h => h) (Or.inl ⟨by rfl, ?_⟩) hHeld ?_ ?_; rotate_left
      ·rintro w' ⟨s0, s1⟩; exact zzT
      rotate_left
      ·exact zzS
      refine take_ (i := 2) (N := some 44) (v := ?_) (a' := ?_) (zM 7 15) rfl rfl (by kernel_rfl) (fun _ _ _ h => h) (Or.inl ⟨by rfl, ?_⟩) hHeld ?_ ?_; rotate_left
      ·rintro w' ⟨s0, s1⟩; exact zzT
      rotate_left
      ·exact zzS
      refine one_ (i := 4) (N := some 46) (zM 7 31) rfl rfl (by kernel_rfl) (by decide) (fun K hK => ?_); refine goes_ Try.func53 (by kernel_rfl) rfl #[.agg #[.int .i64 a0_0, .slice A0_1 l0_1.length c0_1], .slice A1 l1.length c1] (by rfl) rfl rfl zz4 ?_; (with_reducible refine (impl_edgesOf.calls k2 a0_0 _ _ l0_1 _ _ l1 t106 _ ?side1 ?side2 ?side3 ?side4 A26.out).mono ?_); (case side1 => exact zz6); (case side2 => exact HC0_1.out); (case side3 => repeat (first | exact (Kd.C_below HR1.out HB.out) | (with_reducible refine Kd.C_alloc ?_ _) | (with_reducible refine Kd.C_drewN ?_ _) | (with_reducible refine Kd.C_drew ?_))); (case side4 => exact HC1.out); rintro e w29 ⟨v107, rfl, ho0, hb⟩; refine ⟨_, rfl, ?_⟩; have n_ := zA3 (Kd.R_lower ho0 (below_size zz0)) (blk_below (g := gb101) (o := .cells #[.int .i64 a0_0, .slice A0_1 l0_1.length c0_1] 25 (0, 0)) zz2 hb) (below_step zz0 hb); clear BK101 HB; obtain ⟨HO108, BK101, HB⟩ := n_; clear ho0 hb; obtain ⟨Ao30, co30, eo30⟩ := Kd.R_slice HO108.out; (first | subst eo30 | (injection eo30 with f1_ f2_ f3_; have f4_ := f1_.symm; have f5_ := f3_.symm; clear f1_ f2_ f3_; subst f4_; subst f5_)); refine hK.out _ _ ⟨(blk_cell BK101.out 0).trans rfl, (blk_cell BK101.out 1).trans rfl⟩ (fun hHeld => ?_); clear hK K; refine norm_ (a' := ?_) ?_ ?_; rotate_left
      ·show Act.put _ (some 46) _ = _; exact zzS
      refine one_ (i := 5) (N := some 47) (zM 7 63) rfl rfl (by kernel_rfl) (by decide) (fun K hK => ?_); refine goes_ Try.func52 (by kernel_rfl) rfl #[.int .i64 a0_0, .slice Ao30 t106.length co30] (by rfl) rfl rfl zz4 ?_; (with_reducible refine (impl_connected.calls k2 a0_0 _ _ t106 t109 _ ?side1 ?side2 A27.out).mono ?_); (case side1 => repeat (first | exact (Kd.R_reads' HO108.out).2.2 | (with_reducible refine Kd.C_alloc ?_ _) | (with_reducible refine Kd.C_drewN ?_ _) | (with_reducible refine Kd.C_drew ?_))); (case side2 => exact (Kd.R_reads' HO108.out).2.1); rintro e w31 ⟨rfl, hb⟩; refine ⟨_, rfl, ?_⟩; have n_ := zA3 (Kd.R_below (by (with_reducible repeat (first | apply Kd.R_alloc | apply Kd.R_drewN | apply Kd.R_drew)); exact HO108.out) hb) (blk_below (g := gb101) (o := .cells #[.int .i64 a0_0, .slice A0_1 l0_1.length c0_1] 25 (0, 0)) zz2 hb) (below_step zz0 hb); clear HO108 BK101 HB; obtain ⟨HO108, BK101, HB⟩ := n_; clear hb; refine hK.out _ _ ⟨(blk_cell BK101.out 0).trans rfl, (blk_cell BK101.out 1).trans rfl⟩ (fun hHeld => ?_); clear hK K; refine norm_ (a' := ?_) ?_ ?_; rotate_left
      ·show Act.put _ (some 47) _ = _; exact zzS
      refine pure_ (i := 6) (N := some 4) (v := ?_) (a' := ?_) (zM 7 127) rfl rfl (by kernel_rfl) (fun _ _ _ h => h) (Or.inl ⟨by rfl, ?_⟩) ?_ ?_; rotate_left
      ·intro w'; exact zzT
      rotate_left
      ·exact zzS
      refine done_ (by kernel_rfl) ?_; (try go_wp2); go_ret; exact ⟨zz7, zz0⟩
     rw [if_pos c18] at H; have c18b0 := decide_eq_true c18; clear c18; obtain ⟨ji19, hji19⟩ : ∃ j_ : Int, (wrap64 (x5_2 - 1)) = j_ := ⟨_, rfl⟩; (replace H : (if 0 ≤ (ji19) then (if (ji19) < (l1.length : Int) then (if 0 ≤ x5_2 then (if (rd l1 (ji19)) ≥ (rd l1 x5_2) then (some false) else (impl_IsTree.l0 k2 l1 (wrap64 (x5_2 + 1)) a0_0 l0_1)) else (none)) else (none)) else (none)) = some r := by first | (rw [hji19] at H; exact H) | (simp only [hji19] at H ⊢; exact H)); have hji19w : (IntKind.i64.wrap (x5_2 - 1)) = ji19 := (i64_w _).trans hji19; by_cases c20 : 0 ≤ (ji19); rotate_left
     ·rw [if_neg c20] at H; exact absurd H (by simp)
     rw [if_pos c20] at H; have c20b0 := decide_eq_true c20; clear c20; by_cases c21 : (ji19) < (l1.length : Int); rotate_left
     ·rw [if_neg c21] at H; exact absurd H (by simp)
     rw [if_pos c21] at H; have c21b0 := decide_eq_true c21; clear c21; by_cases c22 : 0 ≤ x5_2; rotate_left
     ·rw [if_neg c22] at H; exact absurd H (by simp)
     rw [if_pos c22] at H; have c22b0 := decide_eq_true c22; clear c22; by_cases c23 : (rd l1 (ji19)) ≥ (rd l1 x5_2)
     ·rw [if_pos c23] at H; have c23b0 : decide ((rd l1 x5_2) ≤ (rd l1 (ji19))) = true := decide_eq_true c23; clear c23; obtain rfl := Option.some.inj H; (try go_wp2); have n_ := zA2 (blk_drew BK101.out) (below_drew1 HB.out); clear BK101 HB; obtain ⟨BK101, HB⟩ := n_; have p104 : 0 ≤ ((ji19) : Int) := of_decide_eq_true zz3; have q104 : (ji19) < (l1.length : Int) := of_decide_eq_true zz3; obtain ⟨ad104, e104, hx104_0⟩ := Kd.at_int HR1.out (ji19) p104 q104; have hw104_0 := hx104_0; cases e104; replace hx104_0 := (HB.out.cell (World.block_lt_of_cell? w _ hx104_0)).trans hx104_0; replace p104 := eq_true p104; replace q104 := eq_true q104; have p105 : 0 ≤ (x5_2 : Int) := of_decide_eq_true zz3; have q105 : x5_2 < (l1.length : Int) := of_decide_eq_true zz3; obtain ⟨ad105, e105, hx105_0⟩ := Kd.at_int HR1.out x5_2 p105 q105; have hw105_0 := hx105_0; obtain rfl : ad104 = ad105 := (by injection e105); replace hx105_0 := (HB.out.cell (World.block_lt_of_cell? w _ hx105_0)).trans hx105_0; replace p105 := eq_true p105; replace q105 := eq_true q105; refine start_ (n := 10) (S := fun w' => w'.cell? (ad104.add ((ji19)).toNat) = some (.int .i64 (rd l1 (ji19))) ∧ w'.cell? (ad104.add (x5_2).toNat) = some (.int .i64 (rd l1 x5_2))) (ds := []) (zM 10 0) (by kernel_rfl) rfl rfl ⟨((HB.out.cell (World.block_lt_of_cell? w _ hw104_0)).trans hw104_0), ((HB.out.cell (World.block_lt_of_cell? w _ hw105_0)).trans hw105_0)⟩ (fun hHeld => ?_); refine with_tabW impl_IsTree.tab6 impl_IsTree.bits6 (fun HT_ HW_ => ?_); generalize wr.drew = w24 at BK101 HB hx104_0 hx105_0 hHeld ⊢; refine zQ 0 32 (zM 10 1) ?_
      refine zQ 1 33 (zM 10 3) ?_
      refine zQ 2 34 (zM 10 7) ?_
      refine zQ 3 35 (zM 10 15) ?_
      refine zQ 5 37 (zM 10 47) ?_
      refine zQ 6 38 (zM 10 111) ?_
      refine zQ 7 39 (zM 10 239) ?_
      refine take_ (i := 4) (N := some 36) (v := ?_) (a' := ?_) (zM 10 255) rfl rfl (take_ofW HT_.out HW_.out (by kernel_rfl)) (fun _ _ _ h => h) (Or.inl ⟨by rfl, ?_⟩) hHeld ?_ ?_; rotate_left
      ·rintro w' ⟨s0, s1⟩; exact zzT
      rotate_left
      ·exact zzS
      refine take_ (i := 8) (N := some 40) (v := ?_) (a' := ?_) (zM 10 511) rfl rfl (take_ofW HT_.out HW_.out (by kernel_rfl)) (fun _ _ _ h => h) (Or.inl ⟨by rfl, ?_⟩) hHeld ?_ ?_; rotate_left
      ·rintro w' ⟨s0, s1⟩; exact zzT
      rotate_left
      ·exact zzS
      refine zQ 9 41 (zM 10 1023) ?_
      refine done_ (done_of HT_.out (by kernel_rfl)) ?_; (try go_wp2); go_ret; exact ⟨by first | rfl | (simp [errW_none, errW_some] <;> rfl) | (simp only [← hji19]; first | rfl | (simp [errW_none, errW_some] <;> rfl)) | (simp [*, errW_none, errW_some] <;> rfl), zz0⟩
     rw [if_neg c23] at H; have c23b0 : decide ((rd l1 x5_2) ≤ (rd l1 (ji19))) = false := decide_eq_false c23; clear c23; have H' := Aside0.mk H; clear H; (try go_wp2); have n_ := zA2 (blk_drew BK101.out) (below_drew1 HB.out); clear BK101 HB; obtain ⟨BK101, HB⟩ := n_; have p104 : 0 ≤ ((ji19) : Int) := of_decide_eq_true zz3; have q104 : (ji19) < (l1.length : Int) := of_decide_eq_true zz3; obtain ⟨ad104, e104, hx104_0⟩ := Kd.at_int HR1.out (ji19) p104 q104; have hw104_0 := hx104_0; cases e104; replace hx104_0 := (HB.out.cell (World.block_lt_of_cell? w _ hx104_0)).trans hx104_0; replace p104 := eq_true p104; replace q104 := eq_true q104; have p105 : 0 ≤ (x5_2 : Int) := of_decide_eq_true zz3; have q105 : x5_2 < (l1.length : Int) := of_decide_eq_true zz3; obtain ⟨ad105, e105, hx105_0⟩ := Kd.at_int HR1.out x5_2 p105 q105; have hw105_0 := hx105_0; obtain rfl : ad104 = ad105 := (by injection e105); replace hx105_0 := (HB.out.cell (World.block_lt_of_cell? w _ hx105_0)).trans hx105_0; replace p105 := eq_true p105; replace q105 := eq_true q105; refine start_ (n := 10) (S := fun w' => w'.cell? (ad104.add ((ji19)).toNat) = some (.int .i64 (rd l1 (ji19))) ∧ w'.cell? (ad104.add (x5_2).toNat) = some (.int .i64 (rd l1 x5_2))) (ds := []) (zM 10 0) (by kernel_rfl) rfl rfl ⟨((HB.out.cell (World.block_lt_of_cell? w _ hw104_0)).trans hw104_0), ((HB.out.cell (World.block_lt_of_cell? w _ hw105_0)).trans hw105_0)⟩ (fun hHeld => ?_); refine with_tabW impl_IsTree.tab6 impl_IsTree.bits6 (fun HT_ HW_ => ?_); generalize wr.drew = w25 at BK101 HB hx104_0 hx105_0 hHeld ⊢; refine zQ 0 32 (zM 10 1) ?_
     refine zQ 1 33 (zM 10 3) ?_
     refine zQ 2 34 (zM 10 7) ?_
     refine zQ 3 35 (zM 10 15) ?_
     refine zQ 5 37 (zM 10 47) ?_
     refine zQ 6 38 (zM 10 111) ?_
     refine zQ 7 39 (zM 10 239) ?_
     refine take_ (i := 4) (N := some 36) (v := ?_) (a' := ?_) (zM 10 255) rfl rfl (take_ofW HT_.out HW_.out (by kernel_rfl)) (fun _ _ _ h => h) (Or.inl ⟨by rfl, ?_⟩) hHeld ?_ ?_; rotate_left
     ·rintro w' ⟨s0, s1⟩; exact zzT
     rotate_left
     ·exact zzS
     refine take_ (i := 8) (N := some 40) (v := ?_) (a' := ?_) (zM 10 511) rfl rfl (take_ofW HT_.out HW_.out (by kernel_rfl)) (fun _ _ _ h => h) (Or.inl ⟨by rfl, ?_⟩) hHeld ?_ ?_; rotate_left
     ·rintro w' ⟨s0, s1⟩; exact zzT
     rotate_left
     ·exact zzS
     refine zQ 9 41 (zM 10 1023) ?_
     refine done_ (done_of HT_.out (by kernel_rfl)) ?_; (try go_wp2); go_roundg k2; (case measure => have := HJ2.out; have := HK2.out; omega); case rel => exact ⟨(wrap64 (x5_2 + 1)), zz5, H', ⟨by have := HJ2.out; have := HK2.out; omega⟩, ⟨zz2⟩, ⟨zz0⟩⟩
end Go.Proofs.Ytnbljcgdgblgoaa.P
end

section
namespace Go.Proofs.Ytnbljcgdgblgoaa.P
open Go.RowKit Go.Proofs.YtnbljcgdgblgoaaW.PrintWords Go.Proofs.YtnbljcgdgblgoaaW.PrintLast Go.Proofs.YtnbljcgdgblgoaaW.PrintMore
attribute [local go_sem] max2_int min2_int max_two min_two max_three min_three max_four min_four
set_option linter.unusedVariables false
set_option linter.unusedSimpArgs false
def spec_l12Joins.l0 : Nat → List Int → Int → Int → Int → List (S57) → Int → List (S57) → Option (Bool)
 | 0, _, _, _, _, _, _, _ => none
 | k + 1, x11, x12, x13, x102000, x102001, x103000, x103001 => if x13 < x12 then (if 0 ≤ x13 then (if x13 < (x11.length : Int) then (if 0 ≤ (rd x11 x13) then (if (rd x11 x13) < (x102001.length : Int) then (if x103001.length < 8796093022208 then (spec_l12Joins.l0 k x11 x12 (wrap64 (x13 + 1)) x102000 x102001 x103000 (x103001 ++ [(⟨(rd_T57 x102001 (rd x11 x13)).f0, (rd_T57 x102001 (rd x11 x13)).f1⟩ : S57)])) else (none)) else (none)) else (none)) else (none)) else (none)) else ((spec_l02Reach.f k x103000 x103001).bind fun t108 => (some ((t108.length : Int) == x102000)))
def spec_l12Joins.f (k : Nat) (a0_0 : Int) (l0_1 : List (S57)) (l1 : List Int) : Option (Bool) := spec_l12Joins.l0 k l1 (l1.length : Int) 0 a0_0 l0_1 a0_0 ([] : List (S57))
theorem spec_l12Joins.mono_l : ∀ k, (∀ y0 y1 y2 y3 y4 y5 y6, LeO (spec_l12Joins.l0 k y0 y1 y2 y3 y4 y5 y6) (spec_l12Joins.l0 (k + 1) y0 y1 y2 y3 y4 y5 y6))
 | 0 => fun _ _ _ _ _ _ _ r h => by simp [spec_l12Joins.l0] at h
 | k + 1 => by
  have ih0 := spec_l12Joins.mono_l k
  ·intro y0 y1 y2 y3 y4 y5 y6
   unfold spec_l12Joins.l0
   exact zm13
theorem spec_l12Joins.mono : ∀ a0 a1 a2 k, LeO (spec_l12Joins.f k a0 a1 a2) (spec_l12Joins.f (k + 1) a0 a1 a2) := by
 intro a0 a1 a2 k; have ih0 := spec_l12Joins.mono_l k; unfold spec_l12Joins.f; exact zm13
def spec_l12Joins.T5 : Bool × List (List Nat × List Nat) := (true, [([], []), ([0], [0]), ([], []), ([2], [2]), ([], []), ([3, 4], [3, 4]), ([5], [5]), ([6], [6]), ([1, 7], [1, 7]), ([0, 1, 2, 3, 4, 5, 6, 7, 8], []), ([9, 8, 8, 0, 1, 2, 3, 4, 5, 6, 7, 8], [8, 9])])
def spec_l12Joins.B5 : List Nat := [0, 1, 0, 4, 0, 28, 60, 124, 255, 511, 1023]
theorem spec_l12Joins.tab5 : rtab .any (opsOf Try.f79 5) = spec_l12Joins.T5 := by kernel_rfl
theorem spec_l12Joins.bits5 : waitsOk spec_l12Joins.T5.2 spec_l12Joins.B5 = true := by kernel_rfl
set_option maxHeartbeats 8000000 in
set_option maxRecDepth 100000 in
theorem spec_l12Joins.calls (k : Nat) (a0_0 : Int) (A0_1 : Option Addr) (c0_1 : Nat) (l0_1 : List (S57)) (A1 : Option Addr) (c1 : Nat) (l1 : List Int) (r : Bool) (w : World) (hr0_1 : Kd.C k57 w A0_1 l0_1.length l0_1) (hc0_1 : l0_1.length ≤ c0_1) (hr1 : Kd.C (Kd.int .i64) w A1 l1.length l1) (hc1 : l1.length ≤ c1) (h : spec_l12Joins.f k a0_0 l0_1 l1 = some r) :
  Calls Try.prog 79 #[.agg #[.int .i64 a0_0, .slice A0_1 l0_1.length c0_1], .slice A1 l1.length c1] w fun e w' => e = .returned (.bool r) ∧ Below w.heap.size w w' := by
 have hu25 := Try.underlying25; have hu57 := Try.underlying57; have HR0_1 := Aside0.mk hr0_1; have HC0_1 := Aside0.mk hc0_1; clear hr0_1 hc0_1; have HR1 := Aside0.mk hr1; have HC1 := Aside0.mk hc1; clear hr1 hc1; have HB := Aside0.mk (Below.refl w.heap.size w); have H : (spec_l12Joins.l0 k l1 (l1.length : Int) 0 a0_0 l0_1 a0_0 ([] : List (S57))) = some r := h; clear h; have H' := Aside0.mk H; clear H; go_enter Try.func79, Try.ntmps79; (go_wp2_with (first | ((with_reducible refine gate_dst (N := 2) rfl ?_); refine box_event ?hg (N := 2) ?hd (cs := #[.int .i64 a0_0, .slice A0_1 l0_1.length c0_1]) (t := 25) ?hr ?_; (case hd => rfl); (case hg => rfl); (case hr => exact zz9); intro gb101 hg w3 hbox hb; have n_ := zA4 (below_step zz1 hb) hbox (zz10 : w.heap.size ≤ gb101) (zz10 : w.heap.size ≤ gb101); clear HB; obtain ⟨HB, BK101, GW101, GE101⟩ := n_; clear hb hbox hg; have hcz4_0 := zC20 BK101; have hcz4_1 := zC21 BK101; have hfz4_0 := blk_frozen BK101.out 0; have hfz4_1 := blk_frozen BK101.out 1) | ((with_reducible refine gate_dst (N := 5) rfl ?_); refine box_event ?hg (N := 5) ?hd (cs := #[.int .i64 0, .slice none 0 0]) (t := 25) ?hr ?_; (case hd => rfl); (case hg => rfl); (case hr => exact zz9); intro gb102 hg w5 hbox hb; have n_ := zA7 (blk_below (g := gb101) (o := .cells #[.int .i64 a0_0, .slice A0_1 l0_1.length c0_1] 25 (0, 0)) zz2 hb) (below_step zz0 hb) hbox (zz13 : w.heap.size ≤ gb102) (zz13 : w.heap.size ≤ gb102) (zz56 : gb101 ≠ gb102) (zz57 : gb102 ≠ gb101); clear BK101 HB; obtain ⟨BK101, HB, BK102, GW102, GE102, NB101_102, NB102_101⟩ := n_; clear hb hbox hg; have hnb6 := NB102_101.out; have hnc6 := NB101_102.out; have hcz7_0 := zC20 BK102; have hcz7_1 := zC21 BK102; have hfz7_0 := blk_frozen BK102.out 0; have hfz7_1 := blk_frozen BK102.out 1))); (go_loopg [13] k (fun kq v13 w' => ∃ (x13_1 : Int) (x103001_1 : List (S57)) (u103001 : Value), v13 = .int .i64 x13_1 ∧ Aside0 (spec_l12Joins.l0 kq l1 (l1.length : Int) x13_1 a0_0 l0_1 a0_0 x103001_1 = some r) ∧ Aside0 (kq ≤ k) ∧ Aside0 (Kd.R k57 57 w' w.heap.size (fun _ => True) u103001 x103001_1) ∧ Aside0 (w'.heap[gb101]? = some (.cells #[.int .i64 a0_0, (.slice A0_1 l0_1.length c0_1)] 25 (0, 0))) ∧ Aside0 (w'.heap[gb102]? = some (.cells #[.int .i64 a0_0, u103001] 25 (0, 0))) ∧ Aside0 (Below w.heap.size w w'))); case atStart => exact ⟨(0), (([] : List (S57))), (.slice none 0 0), zz5, H', ⟨Nat.le_refl _⟩, ⟨zz42⟩, ⟨by (with_reducible repeat (first | refine blk_drewN ?_ _ | refine blk_drew ?_ | refine blk_alloc ?_ _)); refine blk_far ?_ NB101_102.out _; (with_reducible repeat (first | refine blk_drewN ?_ _ | refine blk_drew ?_ | refine blk_alloc ?_ _)); refine blk_far ?_ NB101_102.out _; (with_reducible repeat (first | refine blk_drewN ?_ _ | refine blk_drew ?_ | refine blk_alloc ?_ _)); exact BK101.out⟩, ⟨by (with_reducible repeat (first | refine blk_drewN ?_ _ | refine blk_drew ?_ | refine blk_alloc ?_ _)); refine blk_put (cs := #[.int .i64 a0_0, .slice none 0 0]) ?_ 1 _ rfl; (with_reducible repeat (first | refine blk_drewN ?_ _ | refine blk_drew ?_ | refine blk_alloc ?_ _)); refine blk_put (cs := #[.int .i64 0, .slice none 0 0]) ?_ 0 _ rfl; (with_reducible repeat (first | refine blk_drewN ?_ _ | refine blk_drew ?_ | refine blk_alloc ?_ _)); exact BK102.out⟩, ⟨zz14⟩⟩
 case round =>
  clear H'; (try clear c1); (try clear p2); (try clear c6); (try clear c7); (try clear hcz4_0); (try clear hcz4_1); (try clear hcz7_0); (try clear hcz7_1); (try clear hfz4_0); (try clear hfz4_1); (try clear hfz7_0); (try clear hfz7_1); obtain ⟨x13_1, x103001_1, u103001, rfl, HA, HK1, HO_103001, BK101, BK102, HB⟩ := hrel
  cases gk with
  | zero => exact absurd HA.out (by simp [spec_l12Joins.l0])
  | succ k1 =>
   have H := HA.out; clear HA; simp only [spec_l12Joins.l0] at H; by_cases c8 : x13_1 < (l1.length : Int); rotate_left
   ·rw [if_neg c8] at H; have c8b0 := decide_eq_false c8; clear c8; replace H := Option.bind_eq_some_iff.mp H; obtain ⟨t108, A180, H⟩ := H; (try dsimp only at H); have A18 := Aside0.mk A180; clear A180; obtain rfl := Option.some.inj H; (try go_wp2); have n_ := zA4 (Kd.R_drew HO_103001.out) (blk_drew BK101.out) (blk_drew BK102.out) (below_drew1 HB.out); clear HO_103001 BK101 BK102 HB; obtain ⟨HO_103001, BK101, BK102, HB⟩ := n_; obtain ⟨Ao20, co20, eo20⟩ := Kd.R_slice HO_103001.out; (first | subst eo20 | (injection eo20 with f1_ f2_ f3_; have f4_ := f1_.symm; have f5_ := f3_.symm; clear f1_ f2_ f3_; subst f4_; subst f5_)); refine start_ (n := 7) (S := fun w' => w'.cell? ⟨gb102, 0, none⟩ = some (.int .i64 a0_0) ∧ w'.cell? ⟨gb102, 1, none⟩ = some (.slice Ao20 x103001_1.length co20) ∧ w'.cell? ⟨gb101, 0, none⟩ = some (.int .i64 a0_0) ∧ w'.cell? ⟨gb101, 1, none⟩ = some (.slice A0_1 l0_1.length c0_1)) (ds := []) (zM 7 0) (by kernel_rfl) rfl rfl ⟨(blk_cell BK102.out 0).trans rfl, (blk_cell BK102.out 1).trans rfl, (blk_cell BK101.out 0).trans rfl, (blk_cell BK101.out 1).trans rfl⟩ (fun hHeld => ?_); generalize wr.drew = w19 at HO_103001 BK101 BK102 HB hHeld ⊢; refine pure_ (i := 3) (N := some 31) (v := ?_) (a' := ?_) (zM 7 8) rfl rfl (by kernel_rfl) (fun _ _ _ h => h) (Or.inl ⟨by rfl, ?_⟩) ?_ ?_; rotate_left
    ·intro w'; exact zzT
    rotate_left
    ·exact zzS
    refine take_ (i := 0) (N := some 28) (v := ?_) (a' := ?_) (zM 7 9) rfl rfl (by kernel_rfl) (fun _ _ _ h => h) (Or.inl ⟨by rfl, ?_⟩) hHeld ?_ ?_; rotate_left
    ·rintro w' ⟨s0, s1, s2, s3⟩; exact zzT
    rotate_left
    ·exact zzS
    refine take_ (i := 4) (N := some 32) (v := ?_) (a' := ?_) (zM 7 25) rfl rfl (by kernel_rfl) (fun _ _ _ h => h) (Or.inl ⟨by rfl, ?_⟩) hHeld ?_ ?_; rotate_left
    ·rintro w' ⟨s0, s1, s2, s3⟩; exact zzT
    rotate_left
    ·exact zzS
    refine one_ (i := 1) (N := some 29) (zM 7 27) rfl rfl (by kernel_rfl) (by decide) (fun K hK => ?_); refine goes_ Try.func94 (by kernel_rfl) rfl #[.agg #[.int .i64 a0_0, .slice Ao20 x103001_1.length co20]] (by rfl) rfl rfl zz4 ?_; (with_reducible refine (spec_l02Reach.calls k1 a0_0 _ _ x103001_1 t108 _ ?side1 ?side2 A18.out).mono ?_); (case side1 => repeat (first | exact (Kd.R_reads' HO_103001.out).2.2 | (with_reducible refine Kd.C_alloc ?_ _) | (with_reducible refine Kd.C_drewN ?_ _) | (with_reducible refine Kd.C_drew ?_))); (case side2 => exact (Kd.R_reads' HO_103001.out).2.1); rintro e w21 ⟨v109, rfl, ho0, hb⟩; refine ⟨_, rfl, ?_⟩; have n_ := zA5 (Kd.R_below (by (with_reducible repeat (first | apply Kd.R_alloc | apply Kd.R_drewN | apply Kd.R_drew)); exact HO_103001.out) hb) (Kd.R_lower ho0 (below_size zz14)) (blk_below (g := gb101) (o := .cells #[.int .i64 a0_0, .slice A0_1 l0_1.length c0_1] 25 (0, 0)) zz2 hb) (blk_below (g := gb102) (o := .cells #[.int .i64 a0_0, .slice Ao20 x103001_1.length co20] 25 (0, 0)) zz23 hb) (below_step zz14 hb); clear HO_103001 BK101 BK102 HB; obtain ⟨HO_103001, HO110, BK101, BK102, HB⟩ := n_; clear ho0 hb; obtain ⟨Ao22, co22, eo22⟩ := Kd.R_slice HO110.out; (first | subst eo22 | (injection eo22 with f1_ f2_ f3_; have f4_ := f1_.symm; have f5_ := f3_.symm; clear f1_ f2_ f3_; subst f4_; subst f5_)); refine hK.out _ _ ⟨(blk_cell BK102.out 0).trans rfl, (blk_cell BK102.out 1).trans rfl, (blk_cell BK101.out 0).trans rfl, (blk_cell BK101.out 1).trans rfl⟩ (fun hHeld => ?_); clear hK K; refine norm_ (a' := ?_) ?_ ?_; rotate_left
    ·show Act.put _ (some 29) _ = _; exact zzS
    refine pure_ (i := 2) (N := some 30) (v := ?_) (a' := ?_) (zM 7 31) rfl rfl (by kernel_rfl) (fun _ _ _ h => h) (Or.inl ⟨by rfl, ?_⟩) ?_ ?_; rotate_left
    ·intro w'; exact zzT
    rotate_left
    ·exact zzS
    refine pure_ (i := 5) (N := some 33) (v := ?_) (a' := ?_) (zM 7 63) rfl rfl (by kernel_rfl) (fun _ _ _ h => h) (Or.inl ⟨by rfl, ?_⟩) ?_ ?_; rotate_left
    ·intro w'; exact zzT
    rotate_left
    ·exact zzS
    refine pure_ (i := 6) (N := some 4) (v := ?_) (a' := ?_) (zM 7 127) rfl rfl (by kernel_rfl) (fun _ _ _ h => h) (Or.inl ⟨by rfl, ?_⟩) ?_ ?_; rotate_left
    ·intro w'; exact zzT
    rotate_left
    ·exact zzS
    refine done_ (by kernel_rfl) ?_; (try go_wp2); go_ret; exact ⟨zz7, zz14⟩
   rw [if_pos c8] at H; have c8b0 := decide_eq_true c8; clear c8; by_cases c9 : 0 ≤ x13_1; rotate_left
   ·rw [if_neg c9] at H; exact absurd H (by simp)
   rw [if_pos c9] at H; have c9b0 := decide_eq_true c9; clear c9; by_cases c10 : x13_1 < (l1.length : Int); rotate_left
   ·rw [if_neg c10] at H; exact absurd H (by simp)
   rw [if_pos c10] at H; have c10b0 := decide_eq_true c10; clear c10; by_cases c11 : 0 ≤ (rd l1 x13_1); rotate_left
   ·rw [if_neg c11] at H; exact absurd H (by simp)
   rw [if_pos c11] at H; have c11b0 := decide_eq_true c11; clear c11; by_cases c12 : (rd l1 x13_1) < (l0_1.length : Int); rotate_left
   ·rw [if_neg c12] at H; exact absurd H (by simp)
   rw [if_pos c12] at H; have c12b0 := decide_eq_true c12; clear c12; by_cases c13 : x103001_1.length < 8796093022208; rotate_left
   ·rw [if_neg c13] at H; exact absurd H (by simp)
   rw [if_pos c13] at H; have LMc13 := Aside0.mk c13; clear c13; obtain ⟨y105, hy_⟩ : ∃ y_ : List (S57), y_ = (x103001_1 ++ [(⟨(rd_T57 l0_1 (rd l1 x13_1)).f0, (rd_T57 l0_1 (rd l1 x13_1)).f1⟩ : S57)]) := ⟨_, rfl⟩; (replace H : (spec_l12Joins.l0 k1 l1 (l1.length : Int) (wrap64 (x13_1 + 1)) a0_0 l0_1 a0_0 y105) = some r := zzY); have Ny105 := Aside0.mk hy_; clear hy_; have H' := Aside0.mk H; clear H; have p103 : 0 ≤ (x13_1 : Int) := of_decide_eq_true zz3; have q103 : x13_1 < (l1.length : Int) := of_decide_eq_true zz3; obtain ⟨ad103, e103, hx103_0⟩ := Kd.at_int HR1.out x13_1 p103 q103; cases e103; replace hx103_0 := (HB.out.cell (World.block_lt_of_cell? w _ hx103_0)).trans hx103_0; replace p103 := eq_true p103; replace q103 := eq_true q103; (try go_wp2); have n_ := zA4 (Kd.R_drew HO_103001.out) (blk_drew BK101.out) (blk_drew BK102.out) (below_drew1 HB.out); clear HO_103001 BK101 BK102 HB; obtain ⟨HO_103001, BK101, BK102, HB⟩ := n_; have p104 : 0 ≤ ((rd l1 x13_1) : Int) := of_decide_eq_true zz3; have q104 : (rd l1 x13_1) < (l0_1.length : Int) := of_decide_eq_true zz3; obtain ⟨ad104, e104, hx104_0, hx104_1⟩ := at_T57 HR0_1.out (rd l1 x13_1) p104 q104; have hw104_1 := hx104_1; have hw104_0 := hx104_0; cases e104; replace hx104_0 := (HB.out.cell (World.block_lt_of_cell? w _ hx104_0)).trans hx104_0; replace hx104_1 := (HB.out.cell (World.block_lt_of_cell? w _ hx104_1)).trans hx104_1; replace p104 := eq_true p104; replace q104 := eq_true q104; refine start_ (n := 11) (S := fun w' => w'.cell? ⟨gb102, 0, none⟩ = some (.int .i64 a0_0) ∧ w'.cell? ⟨gb102, 1, none⟩ = some (u103001) ∧ w'.cell? ⟨gb101, 0, none⟩ = some (.int .i64 a0_0) ∧ w'.cell? ⟨gb101, 1, none⟩ = some (.slice (some ad104) l0_1.length c0_1) ∧ w'.cell? (ad104.add (((rd l1 x13_1)).toNat * 2)) = some (.int .i64 ((rd_T57 l0_1 (rd l1 x13_1)).f0)) ∧ w'.cell? ⟨(ad104.add (((rd l1 x13_1)).toNat * 2)).block, (ad104.add (((rd l1 x13_1)).toNat * 2)).off + 1, none⟩ = some (.int .i64 ((rd_T57 l0_1 (rd l1 x13_1)).f1))) (ds := [10]) (zM 11 0) (by kernel_rfl) rfl rfl ⟨(blk_cell BK102.out 0).trans rfl, (blk_cell BK102.out 1).trans rfl, (blk_cell BK101.out 0).trans rfl, (blk_cell BK101.out 1).trans rfl, ((HB.out.cell (World.block_lt_of_cell? w _ hw104_0)).trans hw104_0), ((HB.out.cell (World.block_lt_of_cell? w _ hw104_1)).trans hw104_1)⟩ (fun hHeld => ?_); refine with_tabW spec_l12Joins.tab5 spec_l12Joins.bits5 (fun HT_ HW_ => ?_); generalize wr.drew = w14 at HO_103001 BK101 BK102 HB hx104_0 hx104_1 hHeld ⊢; refine zQ 0 17 (zM 11 1) ?_
   refine zQ 2 19 (zM 11 5) ?_
   refine zQ 4 21 (zM 11 21) ?_
   refine take_ (i := 1) (N := some 18) (v := ?_) (a' := ?_) (zM 11 23) rfl rfl (take_ofW HT_.out HW_.out (by kernel_rfl)) (fun _ _ _ h => h) (Or.inl ⟨by rfl, ?_⟩) hHeld ?_ ?_; rotate_left
   ·rintro w' ⟨s0, s1, s2, s3, s4, s5⟩; exact zzT
   rotate_left
   ·exact zzS
   refine take_ (i := 3) (N := some 20) (v := ?_) (a' := ?_) (zM 11 31) rfl rfl (take_ofW HT_.out HW_.out (by kernel_rfl)) (fun _ _ _ h => h) (Or.inl ⟨by rfl, ?_⟩) hHeld ?_ ?_; rotate_left
   ·rintro w' ⟨s0, s1, s2, s3, s4, s5⟩; exact zzT
   rotate_left
   ·exact zzS
   refine zQ 5 22 (zM 11 63) ?_
   refine take_ (i := 6) (N := some 23) (v := ?_) (a' := ?_) (zM 11 127) rfl rfl (take_ofW HT_.out HW_.out (by kernel_rfl)) (fun _ _ _ h => h) (Or.inl ⟨by rfl, ?_⟩) hHeld ?_ ?_; rotate_left
   ·rintro w' ⟨s0, s1, s2, s3, s4, s5⟩; exact zzT
   rotate_left
   ·exact zzS
   refine one_ (i := 7) (N := some 24) (zM 11 255) rfl rfl (one_of HT_.out (by kernel_rfl)) (by decide) (fun K hK => ?_); refine value_ (w1 := ?_) (v := ?_) (by rfl) rfl ?_ ?_; rotate_left 2
   ·go_simp; constructor
    ·rfl
    ·rfl
   refine hK.out _ _ ⟨(blk_cell (blk_alloc BK102.out _) 0).trans rfl, (blk_cell (blk_alloc BK102.out _) 1).trans rfl, (blk_cell (blk_alloc BK101.out _) 0).trans rfl, (blk_cell (blk_alloc BK101.out _) 1).trans rfl, (World.cell?_alloc_lt _ _ _ (World.block_lt_of_cell? _ _ (((HB.out.cell (World.block_lt_of_cell? w _ hw104_0)).trans hw104_0)))).trans (((HB.out.cell (World.block_lt_of_cell? w _ hw104_0)).trans hw104_0)), (World.cell?_alloc_lt _ _ _ (World.block_lt_of_cell? _ _ (((HB.out.cell (World.block_lt_of_cell? w _ hw104_1)).trans hw104_1)))).trans (((HB.out.cell (World.block_lt_of_cell? w _ hw104_1)).trans hw104_1))⟩ (fun hHeld => ?_); clear hK K; refine norm_ (a' := ?_) ?_ ?_; rotate_left
   ·show Act.put _ (some 24) _ = _; exact zzS
   refine one_ (i := 8) (N := some 25) (zM 11 511) rfl rfl (one_of HT_.out (by kernel_rfl)) (by decide) (fun K hK => ?_); refine Kd.R_append_step k57 (w0 := w) w.heap.size (by rfl) (.tmp 18) (.tmp 24) 23 57 (.agg #[(.int .i64 0), (.int .i64 0)]) 16 rfl Try.underlying23 info57 rfl (by decide) (by omega) u103001 x103001_1 (⟨(rd_T57 l0_1 (rd l1 x13_1)).f0, (rd_T57 l0_1 (rd l1 x13_1)).f1⟩ : S57) [.int .i64 ((rd_T57 l0_1 (rd l1 x13_1)).f0), .int .i64 ((rd_T57 l0_1 (rd l1 x13_1)).f1)] (fun _ => True) (fun _ => False) rfl rfl ?aP (fun _ hk => hk.elim) ?aF ?aO ?aB ?aS ?aL ?_; (case aP => exact k57_mkM _ _ _ (⟨(rd_T57 l0_1 (rd l1 x13_1)).f0, (rd_T57 l0_1 (rd l1 x13_1)).f1⟩ : S57)); (case aB => exact zz14); (case aF => exact (fun _ _ => trivial)); (case aO => exact (by (with_reducible repeat (first | apply Kd.R_alloc | apply Kd.R_drewN | apply Kd.R_drew)); exact HO_103001.out)); (case aS => exact (below_size zz14)); (case aL => have := LMc13.out; omega); intro v106 w15 ho hb hg hat; rw [← Ny105.out] at ho; have n_ := zA4 (blk_grown (g := gb101) (o := .cells #[.int .i64 a0_0, .slice (some ad104) l0_1.length c0_1] 25 (0, 0)) zz2 hg (Kd.R_ne HO_103001.out BK101.out (by decide))) (blk_grown (g := gb102) (o := .cells #[.int .i64 a0_0, u103001] 25 (0, 0)) zz23 hg (Kd.R_ne HO_103001.out BK102.out (by decide))) hb ho; clear BK101 BK102 HB HO_103001; obtain ⟨BK101, BK102, HB, HO107⟩ := n_; clear ho hb hg hat; obtain ⟨Ao16, co16, eo16⟩ := Kd.R_slice HO107.out; (first | subst eo16 | (injection eo16 with f1_ f2_ f3_; have f4_ := f1_.symm; have f5_ := f3_.symm; clear f1_ f2_ f3_; subst f4_; subst f5_)); refine hK.out _ _ ⟨(blk_cell BK102.out 0).trans rfl, (blk_cell BK102.out 1).trans rfl, (blk_cell BK101.out 0).trans rfl, (blk_cell BK101.out 1).trans rfl, ((HB.out.cell (World.block_lt_of_cell? w _ hw104_0)).trans hw104_0), ((HB.out.cell (World.block_lt_of_cell? w _ hw104_1)).trans hw104_1)⟩ (fun hHeld => ?_); clear hK K; refine norm_ (a' := ?_) ?_ ?_; rotate_left
   ·show Act.put _ (some 25) _ = _; exact zzS
   refine zQ 9 26 (zM 11 1023) ?_
   refine last_ (i := 10) (N := none) (zM 11 2047) rfl rfl (one_of HT_.out (by kernel_rfl)) (by decide) (fun K hK => ?_); have hs17 : w15.cell? ⟨gb102, 1, none⟩ = some (u103001) := (blk_cell BK102.out 1).trans rfl; have hfs17 := blk_frozen BK102.out 1; have hns17_0 := NB101_102.out; have hms17_0 := NB102_101.out; refine skip_ (w1 := ?_) (by rfl) rfl ?_ ?_; rotate_left
   ·go_simp; rfl
   refine hK.out _ _ ?_; clear hK K; refine done_ (done_of HT_.out (by kernel_rfl)) ?_; (try go_wp2); go_roundg k1; (case measure => have := HK1.out; omega); case rel => exact ⟨(wrap64 (x13_1 + 1)), (y105), (.slice Ao16 y105.length co16), zz5, H', ⟨zz36⟩, ⟨by (with_reducible repeat (first | apply Kd.R_alloc | apply Kd.R_drewN | apply Kd.R_drew)); exact Kd.R_mono (Kd.R_far (p := ⟨gb102, 1, none⟩) (Kd.R_types HO107.out BK102.out (by decide)) (fun _ hk => hk.2) (.slice Ao16 y105.length co16)) (fun _ hk => trivial)⟩, ⟨by (with_reducible repeat (first | refine blk_drewN ?_ _ | refine blk_drew ?_ | refine blk_alloc ?_ _)); refine blk_far ?_ NB101_102.out _; (with_reducible repeat (first | refine blk_drewN ?_ _ | refine blk_drew ?_ | refine blk_alloc ?_ _)); exact BK101.out⟩, ⟨by (with_reducible repeat (first | refine blk_drewN ?_ _ | refine blk_drew ?_ | refine blk_alloc ?_ _)); refine blk_put (cs := #[.int .i64 a0_0, u103001]) ?_ 1 _ rfl; (with_reducible repeat (first | refine blk_drewN ?_ _ | refine blk_drew ?_ | refine blk_alloc ?_ _)); exact BK102.out⟩, ⟨zz14⟩⟩
mutual
def spec_TreesOf.j0 : Nat → Bool → Int → List (S57) → Option ((List (List Int)) × Bool)
 | 0, _, _, _ => none
 | k + 1, x14, x102000, x102001 => if x14 = true then (some (([] : List (List Int)), false)) else ((spec_l03Sets.f (x102001.length : Int) (wrap64 (x102000 - 1))).bind fun t107 => (spec_TreesOf.l0 k (([] : List (List Int))) t107 (t107.length : Int) 0 x102000 x102001))
def spec_TreesOf.l0 : Nat → List (List Int) → List (List Int) → Int → Int → Int → List (S57) → Option ((List (List Int)) × Bool)
 | 0, _, _, _, _, _, _ => none
 | k + 1, x4, x22, x23, x24, x102000, x102001 => if x24 < x23 then (if 0 ≤ x24 then (if x24 < (x22.length : Int) then ((spec_l12Joins.f k x102000 x102001 (rd_L3 x22 x24)).bind fun t111 => (if t111 = true then (if x4.length < 5864062014805 then (spec_TreesOf.l0 k (x4 ++ [rd_L3 x22 x24]) x22 x23 (wrap64 (x24 + 1)) x102000 x102001) else (none)) else (spec_TreesOf.l0 k x4 x22 x23 (wrap64 (x24 + 1)) x102000 x102001))) else (none)) else (none)) else (some (x4, true))
end
def spec_TreesOf.f (k : Nat) (a0_0 : Int) (l0_1 : List (S57)) : Option ((List (List Int)) × Bool) := (spec_GraphOk.f k a0_0 l0_1).bind fun t102 => (if t102 = true then ((spec_CountTrees.f k a0_0 l0_1).bind fun t103 => (spec_TreesOf.j0 k (decide (t103 > 400)) a0_0 l0_1)) else (spec_TreesOf.j0 k true a0_0 l0_1))
theorem spec_TreesOf.mono_l : ∀ k, (∀ y0 y1 y2, LeO (spec_TreesOf.j0 k y0 y1 y2) (spec_TreesOf.j0 (k + 1) y0 y1 y2)) ∧ (∀ y0 y1 y2 y3 y4 y5, LeO (spec_TreesOf.l0 k y0 y1 y2 y3 y4 y5) (spec_TreesOf.l0 (k + 1) y0 y1 y2 y3 y4 y5))
 | 0 => ⟨fun _ _ _ r h => by simp [spec_TreesOf.j0] at h, fun _ _ _ _ _ _ r h => by simp [spec_TreesOf.l0] at h⟩
 | k + 1 => by
  obtain ⟨ih0, ih1⟩ := spec_TreesOf.mono_l k
  refine ⟨?_, ?_⟩
  ·intro y0 y1 y2
   unfold spec_TreesOf.j0
   exact zm7
  ·intro y0 y1 y2 y3 y4 y5
   unfold spec_TreesOf.l0
   exact zm7
theorem spec_TreesOf.mono : ∀ a0 a1 k, LeO (spec_TreesOf.f k a0 a1) (spec_TreesOf.f (k + 1) a0 a1) := by
 intro a0 a1 k; obtain ⟨ih0, ih1⟩ := spec_TreesOf.mono_l k; unfold spec_TreesOf.f; exact zm7
set_option maxHeartbeats 8000000 in
set_option maxRecDepth 100000 in
theorem spec_TreesOf.calls (k : Nat) (a0_0 : Int) (A0_1 : Option Addr) (c0_1 : Nat) (l0_1 : List (S57)) (r1 : List (List Int)) (r2 : Bool) (w : World) (hr0_1 : Kd.C k57 w A0_1 l0_1.length l0_1) (hc0_1 : l0_1.length ≤ c0_1) (h : spec_TreesOf.f k a0_0 l0_1 = some (r1, r2)) :
  Calls Try.prog 35 #[.agg #[.int .i64 a0_0, .slice A0_1 l0_1.length c0_1]] w fun e w' => ∃ v0_ : Value, e = .returned (.tuple #[v0_, .bool r2]) ∧ Kd.N (Kd.slice 3 (Kd.int .i64)) 26 w' w.heap.size (fun k_ => (w.heap.size ≤ k_)) v0_ r1 ∧ Below w.heap.size w w' := by
 have hu25 := Try.underlying25; have HR0_1 := Aside0.mk hr0_1; have HC0_1 := Aside0.mk hc0_1; clear hr0_1 hc0_1; have HB := Aside0.mk (Below.refl w.heap.size w); have H : ((spec_GraphOk.f k a0_0 l0_1).bind fun t102 => (if t102 = true then ((spec_CountTrees.f k a0_0 l0_1).bind fun t103 => (spec_TreesOf.j0 k (decide (t103 > 400)) a0_0 l0_1)) else (spec_TreesOf.j0 k true a0_0 l0_1))) = some (r1, r2) := h; clear h; have HC2 := Aside0.mk H; clear H; go_enter Try.func35, Try.ntmps35; (go_upto_region 1 with (first | ((with_reducible refine gate_dst (N := 1) rfl ?_); refine box_event ?hg (N := 1) ?hd (cs := #[.int .i64 a0_0, .slice A0_1 l0_1.length c0_1]) (t := 25) ?hr ?_; (case hd => rfl); (case hg => rfl); (case hr => exact zz9); intro gb101 hg w3 hbox hb; have n_ := zA4 (below_step zz1 hb) hbox (zz10 : w.heap.size ≤ gb101) (zz10 : w.heap.size ≤ gb101); clear HB; obtain ⟨HB, BK101, GW101, GE101⟩ := n_; clear hb hbox hg))); (try simp only [Act.put, List.setIfInBounds_toArray, List.set_cons_zero, List.set_cons_succ]); go_cut [14] (fun v14 wc => ∃ (kq : Nat) (x14_1 : Bool), v14 = .bool x14_1 ∧ Aside0 (spec_TreesOf.j0 kq x14_1 a0_0 l0_1 = some (r1, r2)) ∧ Aside0 (kq ≤ k) ∧ Aside0 (wc.heap[gb101]? = some (.cells #[.int .i64 a0_0, (.slice A0_1 l0_1.length c0_1)] 25 (0, 0))) ∧ Aside0 (Below w.heap.size w wc))
 case first =>
  have H := HC2.out; clear HC2; replace H := Option.bind_eq_some_iff.mp H; obtain ⟨t102, A40, H⟩ := H; (try dsimp only at H); have A4 := Aside0.mk A40; clear A40; by_cases c5 : t102 = true; rotate_left
  ·replace c5 := Bool.eq_false_iff.mpr c5; subst c5; rw [if_neg (show ¬ (false = true) by decide)] at H; have H' := Aside0.mk H; clear H; have hcz11_0 := zC20 BK101; have hcz11_1 := zC21 BK101; have hfz11_0 := blk_frozen BK101.out 0; have hfz11_1 := blk_frozen BK101.out 1; (go_wp2_with (first | ((with_reducible refine gate_callee (f := 55) rfl ?_); refine goesL_ (some 8) rfl rfl Try.func55 (by kernel_rfl) rfl #[.agg #[.int .i64 a0_0, .slice A0_1 l0_1.length c0_1]] rfl zz4 ?_; (with_reducible refine (spec_GraphOk.calls k a0_0 _ _ l0_1 false _ ?side1 ?side2 A4.out).mono ?_); (case side1 => exact zz6); (case side2 => exact HC0_1.out); rintro e w12 ⟨rfl, hb⟩; refine ⟨_, rfl, ?_⟩; have n_ := zA2 (blk_below (g := gb101) (o := .cells #[.int .i64 a0_0, .slice A0_1 l0_1.length c0_1] 25 (0, 0)) zz2 hb) (below_step zz0 hb); clear BK101 HB; obtain ⟨BK101, HB⟩ := n_; clear hb))); (go_meet); case rel => exact ⟨_, (true), zz5, H', ⟨by first | omega | exact Nat.le_refl _⟩, ⟨zz2⟩, ⟨zz0⟩⟩
  subst c5; rw [if_pos rfl] at H; replace H := Option.bind_eq_some_iff.mp H; obtain ⟨t103, A60, H⟩ := H; (try dsimp only at H); have A6 := Aside0.mk A60; clear A60; have H' := Aside0.mk H; clear H; have hcz7_0 := zC20 BK101; have hcz7_1 := zC21 BK101; have hfz7_0 := blk_frozen BK101.out 0; have hfz7_1 := blk_frozen BK101.out 1; (go_wp2_with (first | ((with_reducible refine gate_callee (f := 55) rfl ?_); refine goesL_ (some 8) rfl rfl Try.func55 (by kernel_rfl) rfl #[.agg #[.int .i64 a0_0, .slice A0_1 l0_1.length c0_1]] rfl zz4 ?_; (with_reducible refine (spec_GraphOk.calls k a0_0 _ _ l0_1 true _ ?side1 ?side2 A4.out).mono ?_); (case side1 => exact zz6); (case side2 => exact HC0_1.out); rintro e w8 ⟨rfl, hb⟩; refine ⟨_, rfl, ?_⟩; have n_ := zA2 (blk_below (g := gb101) (o := .cells #[.int .i64 a0_0, .slice A0_1 l0_1.length c0_1] 25 (0, 0)) zz2 hb) (below_step zz0 hb); clear BK101 HB; obtain ⟨BK101, HB⟩ := n_; clear hb; have hcz9_0 := zC20 BK101; have hcz9_1 := zC21 BK101; have hfz9_0 := blk_frozen BK101.out 0; have hfz9_1 := blk_frozen BK101.out 1) | (go_at_call 77; (with_reducible refine (spec_CountTrees.calls k a0_0 _ _ l0_1 t103 _ ?side1 ?side2 A6.out).mono ?_); (case side1 => exact zz6); (case side2 => exact HC0_1.out); rintro e w10 ⟨rfl, hb⟩; have n_ := zA2 (blk_below (g := gb101) (o := .cells #[.int .i64 a0_0, .slice A0_1 l0_1.length c0_1] 25 (0, 0)) zz2 hb) (below_step zz0 hb); clear BK101 HB; obtain ⟨BK101, HB⟩ := n_; (try clear hb); (try clear hb2); (try clear hk); (try clear hi)))); (go_meet); case rel => exact ⟨_, (decide (t103 > 400)), zz5, H', ⟨by first | omega | exact Nat.le_refl _⟩, ⟨zz2⟩, ⟨zz0⟩⟩
 case rest =>
  clear HC2; (try clear p2); (try clear c3); (try clear c5); (try clear hcz11_0); (try clear hcz11_1); (try clear hcz7_0); (try clear hcz7_1); (try clear hcz9_0); (try clear hcz9_1); (try clear hfz11_0); (try clear hfz11_1); (try clear hfz7_0); (try clear hfz7_1); (try clear hfz9_0); (try clear hfz9_1); obtain ⟨kq, x14_1, rfl, HA, HJ1, BK101, HB⟩ := hcut
  cases kq with
  | zero => exact absurd HA.out (by simp [spec_TreesOf.j0])
  | succ kj1 =>
   have H := HA.out; clear HA; simp only [spec_TreesOf.j0] at H; by_cases c13 : x14_1 = true
   ·subst c13; rw [if_pos rfl] at H; simp only [Option.some.injEq, Prod.mk.injEq] at H; obtain ⟨rfl, rfl⟩ := H; go_wp2; (go_ret2); exact ⟨_, zz7, zz52, zz0⟩
   replace c13 := Bool.eq_false_iff.mpr c13; subst c13; rw [if_neg (show ¬ (false = true) by decide)] at H; obtain ⟨y104, hy_⟩ : ∃ y_ : List (List Int), y_ = (([] : List (List Int))) := ⟨_, rfl⟩; (replace H : ((spec_l03Sets.f (l0_1.length : Int) (wrap64 (a0_0 - 1))).bind fun t107 => (spec_TreesOf.l0 kj1 y104 t107 (t107.length : Int) 0 a0_0 l0_1)) = some (r1, r2) := zzY); have Ny104 := Aside0.mk hy_; clear hy_; replace H := Option.bind_eq_some_iff.mp H; obtain ⟨t107, A140, H⟩ := H; (try dsimp only at H); have A14 := Aside0.mk A140; clear A140; have H' := Aside0.mk H; clear H; (go_wp2_with (first | ((with_reducible refine gate_dst (N := 15) rfl ?_); refine Kd.N_lit (Kd.slice 3 (Kd.int .i64)) _ 26 ?hg (N' := 15) ?hd (xs := ([] : List (List Int))) (inner := []) (ok := (fun k_ => (w.heap.size ≤ k_) ∧ k_ ≠ gb101)) (okp := (fun k_ => (w.heap.size ≤ k_) ∧ k_ ≠ gb101)) ?hr ?hp (fun _ hk => hk) ((show ∀ k_, wc.heap.size ≤ k_ → (fun k_ => (w.heap.size ≤ k_) ∧ k_ ≠ gb101) k_ from fun k_ hk => ⟨(Nat.le_trans (below_size zz0) hk), Kd.freshB (g := gb101) (o := .cells #[.int .i64 a0_0, .slice A0_1 l0_1.length c0_1] 25 (0, 0)) zz2 k_ hk⟩) _ (Nat.le_refl _)) (Below.refl _ _) (Nat.le_refl _) (by simp) ?_; (case hd => rfl); (case hg => rfl); (case hr => exact zz9); (case hp => exact (Reps.none _ _)); intro v105 w15 ho16 hb hg_ hnew_; clear hg_ hnew_; (first | rw [← Ny104.out] at ho16 | (simp only [Int.reduceToNat] at ho16; rw [← Ny104.out] at ho16)); have n_ := zA3 (Kd.N_lower ho16 (below_size zz0)) (blk_below (g := gb101) (o := .cells #[.int .i64 a0_0, .slice A0_1 l0_1.length c0_1] 25 (0, 0)) zz2 hb) (below_step zz0 hb); clear BK101 HB; obtain ⟨HO106, BK101, HB⟩ := n_; clear hb ho16; have hcz17_0 := zC20 BK101; have hcz17_1 := zC21 BK101; have hfz17_0 := blk_frozen BK101.out 0; have hfz17_1 := blk_frozen BK101.out 1) | ((with_reducible refine gate_callee (f := 78) rfl ?_); refine goesL_ (some 22) rfl rfl Try.func78 (by kernel_rfl) rfl #[.int .i64 (l0_1.length : Int), .int .i64 (wrap64 (a0_0 - 1))] rfl zz4 ?_; (with_reducible refine (spec_l03Sets.calls (l0_1.length : Int) (wrap64 (a0_0 - 1)) t107 _ A14.out).mono ?_); rintro e w18 ⟨v108, rfl, ho0, hb⟩; refine ⟨_, rfl, ?_⟩; have n_ := zA4 (Kd.N_elder' (by (with_reducible repeat (first | apply Kd.N_alloc | apply Kd.N_drewN | apply Kd.N_drew)); exact HO106.out) (Kd.N_base (Kd.S_N ho0)) hb) (Kd.N_lower (Kd.N_mono (ok' := fun k_ => (w.heap.size ≤ k_) ∧ some k_ ≠ (v105 : Value).ownBlock ∧ k_ ≠ gb101) (Kd.S_N (Kd.S_bound ho0)) (fun k_ hk_ => ⟨(Nat.le_trans (below_size zz0) hk_.2.1), (Kd.fresh' (Kd.N_lt (by (with_reducible repeat (first | apply Kd.N_alloc | apply Kd.N_drewN | apply Kd.N_drew)); exact HO106.out)) k_ hk_.2.1), (Kd.freshB (g := gb101) (o := .cells #[.int .i64 a0_0, .slice A0_1 l0_1.length c0_1] 25 (0, 0)) zz2 k_ hk_.2.1)⟩)) (below_size zz0)) (blk_below (g := gb101) (o := .cells #[.int .i64 a0_0, .slice A0_1 l0_1.length c0_1] 25 (0, 0)) zz2 hb) (below_step zz0 hb); clear HO106 BK101 HB; obtain ⟨HO106, HO109, BK101, HB⟩ := n_; clear ho0 hb; obtain ⟨Ao19, co19, eo19⟩ := Kd.N_slice HO109.out; subst eo19))); (go_loopg [4, 24] kj1 (fun kq v4 v24 w' => ∃ (x4_2 : List (List Int)) (x24_2 : Int), v24 = .int .i64 x24_2 ∧ Aside0 (spec_TreesOf.l0 kq x4_2 t107 (t107.length : Int) x24_2 a0_0 l0_1 = some (r1, r2)) ∧ Aside0 (kq ≤ kj1) ∧ Aside0 (Kd.N (Kd.slice 3 (Kd.int .i64)) 26 w' w.heap.size (fun k_ => (w.heap.size ≤ k_) ∧ some k_ ≠ ((.slice Ao19 t107.length co19) : Value).ownBlock ∧ k_ ≠ gb101) v4 x4_2) ∧ Aside0 (Kd.N (Kd.slice 3 (Kd.int .i64)) 26 w' w.heap.size (fun k_ => (w.heap.size ≤ k_) ∧ some k_ ≠ (v4 : Value).ownBlock ∧ k_ ≠ gb101) (.slice Ao19 t107.length co19) t107) ∧ Aside0 (w'.heap[gb101]? = some (.cells #[.int .i64 a0_0, (.slice A0_1 l0_1.length c0_1)] 25 (0, 0))) ∧ Aside0 (Below w.heap.size w w'))); case atStart => exact ⟨(y104), (0), zz5, H', ⟨Nat.le_refl _⟩, ⟨by (with_reducible repeat (first | apply Kd.N_alloc | apply Kd.N_drewN | apply Kd.N_drew)); exact Kd.N_mono HO106.out (fun _ hk => ⟨hk.1.1, ⟨hk.2, hk.1.2⟩⟩)⟩, ⟨by (with_reducible repeat (first | apply Kd.N_alloc | apply Kd.N_drewN | apply Kd.N_drew)); exact HO109.out⟩, ⟨zz2⟩, ⟨zz0⟩⟩
   case round =>
    clear H'; (try clear c1); (try clear p2); (try clear c3); (try clear c5); (try clear p6); (try clear c7); (try clear c13); (try clear hcz11_0); (try clear hcz11_1); (try clear hcz17_0); (try clear hcz17_1); (try clear hcz7_0); (try clear hcz7_1); (try clear hcz9_0); (try clear hcz9_1); (try clear hfz11_0); (try clear hfz11_1); (try clear hfz17_0); (try clear hfz17_1); (try clear hfz7_0); (try clear hfz7_1); (try clear hfz9_0); (try clear hfz9_1); (try clear p2); obtain ⟨x4_2, x24_2, rfl, HA, HK2, HO_4, HO_22, BK101, HB⟩ := hrel
    cases gk with
    | zero => exact absurd HA.out (by simp [spec_TreesOf.l0])
    | succ k2 =>
     have H := HA.out; clear HA; simp only [spec_TreesOf.l0] at H; by_cases c20 : x24_2 < (t107.length : Int); rotate_left
     ·rw [if_neg c20] at H; have c20b0 := decide_eq_false c20; (try (have c20b8110_0 := c20b0; first | rw [hl110_0] at c20b8110_0 | rw [← hl110_0] at c20b8110_0)); clear c20; simp only [Option.some.injEq, Prod.mk.injEq] at H; obtain ⟨rfl, rfl⟩ := H; go_wp2; (go_ret2); exact ⟨_, zz7, by (with_reducible repeat (first | apply Kd.N_alloc | apply Kd.N_drewN | apply Kd.N_drew)); exact Kd.N_mono HO_4.out (fun _ hk => hk.1), zz0⟩
     rw [if_pos c20] at H; have c20b0 := decide_eq_true c20; clear c20; by_cases c21 : 0 ≤ x24_2; rotate_left
     ·rw [if_neg c21] at H; exact absurd H (by simp)
     rw [if_pos c21] at H; have c21b0 := decide_eq_true c21; clear c21; by_cases c22 : x24_2 < (t107.length : Int); rotate_left
     ·rw [if_neg c22] at H; exact absurd H (by simp)
     rw [if_pos c22] at H; have c22b0 := decide_eq_true c22; clear c22; replace H := Option.bind_eq_some_iff.mp H; obtain ⟨t111, A230, H⟩ := H; (try dsimp only at H); have A23 := Aside0.mk A230; clear A230; by_cases c24 : t111 = true; rotate_left
     ·replace c24 := Bool.eq_false_iff.mpr c24; subst c24; rw [if_neg (show ¬ (false = true) by decide)] at H; have H' := Aside0.mk H; clear H; have p110 : 0 ≤ (x24_2 : Int) := of_decide_eq_true zz3; have q110 : x24_2 < (t107.length : Int) := of_decide_eq_true zz3; obtain ⟨ad110, A110_0, c110_0, e110, hx110_0, hl110_0, hi110_0⟩ := at_L3 (Kd.N_reads' HO_22.out).2.2 x24_2 p110 q110; cases e110; obtain ⟨ce110, hce110, hMe110, hcc110⟩ := Kd.N_get HO_22.out [] x24_2 p110 (by first | exact q110 | exact of_decide_eq_true zz3 | (have e_ := (Kd.N_reads' HO_22.out).1; omega)); obtain ⟨ua110_0, uc110_0, rfl, ul110_0, ge110_0⟩ := Kd.FK_slice_open hMe110; have hv110_0 := hcc110 0 _ rfl; rw [Nat.add_zero, show ((Kd.slice 3 (Kd.int .i64))).sz = 1 from rfl, Nat.mul_one] at hv110_0; replace hv110_0 := Option.some.inj (hv110_0.symm.trans hx110_0); injection hv110_0 with hva_ hvn_ hvc_; rw [hva_] at ge110_0; rw [hvc_] at ul110_0; have HL110_0 := Aside0.mk (show Kd.V (Kd.int .i64) 3 _ w.heap.size _ _ (rd_L3 t107 x24_2) from Kd.V_mk ul110_0 ge110_0); clear hva_ hvn_ hvc_ ge110_0 ul110_0; clear hcc110 hce110; have HR110_0 := Aside0.mk hi110_0; have HC110_0 := Aside0.mk hl110_0; clear hi110_0 hl110_0; replace p110 := eq_true p110; replace q110 := eq_true q110; have hcz29_0 := zC20 BK101; have hcz29_1 := zC21 BK101; have hfz29_0 := blk_frozen BK101.out 0; have hfz29_1 := blk_frozen BK101.out 1; (go_wp2_with (first | ((with_reducible refine gate_callee (f := 79) rfl ?_); refine goesL_ (some 30) rfl rfl Try.func79 (by kernel_rfl) rfl #[.agg #[.int .i64 a0_0, .slice A0_1 l0_1.length c0_1], .slice A110_0 (rd_L3 t107 x24_2).length c110_0] rfl zz4 ?_; (with_reducible refine (spec_l12Joins.calls k2 a0_0 _ _ l0_1 _ _ (rd_L3 t107 x24_2) false _ ?side1 ?side2 ?side3 ?side4 A23.out).mono ?_); (case side1 => exact zz6); (case side2 => exact HC0_1.out); (case side3 => repeat (first | exact zz41 | (with_reducible refine Kd.C_alloc ?_ _) | (with_reducible refine Kd.C_drewN ?_ _) | (with_reducible refine Kd.C_drew ?_))); (case side4 => exact HC110_0.out); rintro e w30 ⟨rfl, hb⟩; refine ⟨_, rfl, ?_⟩; have n_ := zA6 (Kd.N_below (by (with_reducible repeat (first | apply Kd.N_alloc | apply Kd.N_drewN | apply Kd.N_drew)); exact HO_4.out) hb) (Kd.N_below (by (with_reducible repeat (first | apply Kd.N_alloc | apply Kd.N_drewN | apply Kd.N_drew)); exact HO_22.out) hb) (Kd.V_below (by (with_reducible repeat (first | apply Kd.V_alloc | apply Kd.V_drewN | apply Kd.V_drew)); exact HL110_0.out) hb) (blk_below (g := gb101) (o := .cells #[.int .i64 a0_0, .slice A0_1 l0_1.length c0_1] 25 (0, 0)) zz2 hb) (Kd.C_below zz41 hb) (below_step zz0 hb); clear HO_4 HO_22 HL110_0 BK101 HR110_0 HB; obtain ⟨HO_4, HO_22, HL110_0, BK101, HR110_0, HB⟩ := n_; clear hb))); go_roundg k2; (case measure => have := HJ1.out; have := HK2.out; omega); case rel => exact ⟨(x4_2), (wrap64 (x24_2 + 1)), zz5, H', ⟨by have := HJ1.out; have := HK2.out; omega⟩, ⟨by (with_reducible repeat (first | apply Kd.N_alloc | apply Kd.N_drewN | apply Kd.N_drew)); exact HO_4.out⟩, ⟨by (with_reducible repeat (first | apply Kd.N_alloc | apply Kd.N_drewN | apply Kd.N_drew)); exact HO_22.out⟩, ⟨zz2⟩, ⟨zz0⟩⟩
     subst c24; rw [if_pos rfl] at H; by_cases c25 : x4_2.length < 5864062014805; rotate_left
     ·rw [if_neg c25] at H; exact absurd H (by simp)
     rw [if_pos c25] at H; have LMc25 := Aside0.mk c25; clear c25; obtain ⟨y112, hy_⟩ : ∃ y_ : List (List Int), y_ = (x4_2 ++ [rd_L3 t107 x24_2]) := ⟨_, rfl⟩; (replace H : (spec_TreesOf.l0 k2 y112 t107 (t107.length : Int) (wrap64 (x24_2 + 1)) a0_0 l0_1) = some (r1, r2) := zzY); have Ny112 := Aside0.mk hy_; clear hy_; have H' := Aside0.mk H; clear H; have p110 : 0 ≤ (x24_2 : Int) := of_decide_eq_true zz3; have q110 : x24_2 < (t107.length : Int) := of_decide_eq_true zz3; obtain ⟨ad110, A110_0, c110_0, e110, hx110_0, hl110_0, hi110_0⟩ := at_L3 (Kd.N_reads' HO_22.out).2.2 x24_2 p110 q110; cases e110; obtain ⟨ce110, hce110, hMe110, hcc110⟩ := Kd.N_get HO_22.out [] x24_2 p110 (by first | exact q110 | exact of_decide_eq_true zz3 | (have e_ := (Kd.N_reads' HO_22.out).1; omega)); obtain ⟨ua110_0, uc110_0, rfl, ul110_0, ge110_0⟩ := Kd.FK_slice_open hMe110; have hv110_0 := hcc110 0 _ rfl; rw [Nat.add_zero, show ((Kd.slice 3 (Kd.int .i64))).sz = 1 from rfl, Nat.mul_one] at hv110_0; replace hv110_0 := Option.some.inj (hv110_0.symm.trans hx110_0); injection hv110_0 with hva_ hvn_ hvc_; rw [hva_] at ge110_0; rw [hvc_] at ul110_0; have HL110_0 := Aside0.mk (show Kd.V (Kd.int .i64) 3 _ w.heap.size _ _ (rd_L3 t107 x24_2) from Kd.V_mk ul110_0 ge110_0); clear hva_ hvn_ hvc_ ge110_0 ul110_0; clear hcc110 hce110; have HR110_0 := Aside0.mk hi110_0; have HC110_0 := Aside0.mk hl110_0; clear hi110_0 hl110_0; replace p110 := eq_true p110; replace q110 := eq_true q110; have hcz26_0 := zC20 BK101; have hcz26_1 := zC21 BK101; have hfz26_0 := blk_frozen BK101.out 0; have hfz26_1 := blk_frozen BK101.out 1; (go_wp2_with (first | ((with_reducible refine gate_callee (f := 79) rfl ?_); refine goesL_ (some 30) rfl rfl Try.func79 (by kernel_rfl) rfl #[.agg #[.int .i64 a0_0, .slice A0_1 l0_1.length c0_1], .slice A110_0 (rd_L3 t107 x24_2).length c110_0] rfl zz4 ?_; (with_reducible refine (spec_l12Joins.calls k2 a0_0 _ _ l0_1 _ _ (rd_L3 t107 x24_2) true _ ?side1 ?side2 ?side3 ?side4 A23.out).mono ?_); (case side1 => exact zz6); (case side2 => exact HC0_1.out); (case side3 => repeat (first | exact zz41 | (with_reducible refine Kd.C_alloc ?_ _) | (with_reducible refine Kd.C_drewN ?_ _) | (with_reducible refine Kd.C_drew ?_))); (case side4 => exact HC110_0.out); rintro e w27 ⟨rfl, hb⟩; refine ⟨_, rfl, ?_⟩; have n_ := zA6 (Kd.N_below (by (with_reducible repeat (first | apply Kd.N_alloc | apply Kd.N_drewN | apply Kd.N_drew)); exact HO_4.out) hb) (Kd.N_below (by (with_reducible repeat (first | apply Kd.N_alloc | apply Kd.N_drewN | apply Kd.N_drew)); exact HO_22.out) hb) (Kd.V_below (by (with_reducible repeat (first | apply Kd.V_alloc | apply Kd.V_drewN | apply Kd.V_drew)); exact HL110_0.out) hb) (blk_below (g := gb101) (o := .cells #[.int .i64 a0_0, .slice A0_1 l0_1.length c0_1] 25 (0, 0)) zz2 hb) (Kd.C_below zz41 hb) (below_step zz0 hb); clear HO_4 HO_22 HL110_0 BK101 HR110_0 HB; obtain ⟨HO_4, HO_22, HL110_0, BK101, HR110_0, HB⟩ := n_; clear hb) | ((with_reducible refine gate_builtin (b := .append) (xs := #[.tmp 31, .tmp 33]) rfl ?_); at_builtin; refine Kd.N_append (Kd.slice 3 (Kd.int .i64)) (w0 := w) w.heap.size rfl (.tmp 31) (.tmp 33) 34 26 (.slice none 0 0) 24 rfl Try.underlying34 info26 rfl (by decide) (by omega) u4 x4_2 (rd_L3 t107 x24_2) [.slice A110_0 (rd_L3 t107 x24_2).length c110_0] (fun k_ => (w.heap.size ≤ k_) ∧ some k_ ≠ (.slice (some ad110) t107.length co19 : Value).ownBlock ∧ k_ ≠ gb101) (fun k_ => ((fun k_ => (w.heap.size ≤ k_) ∧ some k_ ≠ (.slice (some ad110) t107.length co19 : Value).ownBlock ∧ k_ ≠ gb101)) k_ ∧ some k_ ≠ (u4 : Value).ownBlock) rfl rfl ?aP (fun _ hk => hk) ?aF ?aO ?aB ?aS ?aL ?_; (case aP => exact (Kd.FK_slice_mk (Kd.V_reads' (Kd.V_mono (ok' := (fun k_ => ((fun k_ => (w.heap.size ≤ k_) ∧ some k_ ≠ (.slice (some ad110) t107.length co19 : Value).ownBlock ∧ k_ ≠ gb101)) k_ ∧ some k_ ≠ (u4 : Value).ownBlock)) (HL110_0.out) (fun k_ hk => ⟨⟨hk.1.1, ⟨hk.2, hk.1.2.2⟩⟩, hk.1.2.1⟩))).2.1 (Kd.V_F (Kd.V_mono (ok' := (fun k_ => ((fun k_ => (w.heap.size ≤ k_) ∧ some k_ ≠ (.slice (some ad110) t107.length co19 : Value).ownBlock ∧ k_ ≠ gb101)) k_ ∧ some k_ ≠ (u4 : Value).ownBlock)) (HL110_0.out) (fun k_ hk => ⟨⟨hk.1.1, ⟨hk.2, hk.1.2.2⟩⟩, hk.1.2.1⟩))))); (case aB => exact zz0); (case aF => exact (fun k_ hk => ⟨(Nat.le_trans (below_size zz0) hk), Kd.fresh' (Kd.N_lt (by (with_reducible repeat (first | apply Kd.N_alloc | apply Kd.N_drewN | apply Kd.N_drew)); exact HO_22.out)) k_ hk, Kd.freshB (g := gb101) (o := .cells #[.int .i64 a0_0, .slice A0_1 l0_1.length c0_1] 25 (0, 0)) zz2 k_ hk⟩)); (case aO => exact (by (with_reducible repeat (first | apply Kd.N_alloc | apply Kd.N_drewN | apply Kd.N_drew)); exact HO_4.out)); (case aS => exact (below_size zz0)); (case aL => have := LMc25.out; omega); intro v113 w28 ho hb hg hat; rw [← Ny112.out] at ho; have n_ := zA5 (Kd.N_afterv (ok := (fun k_ => (w.heap.size ≤ k_) ∧ k_ ≠ gb101)) (by (with_reducible repeat (first | apply Kd.N_alloc | apply Kd.N_drewN | apply Kd.N_drew)); exact Kd.N_mono HO_22.out (fun _ hk => ⟨⟨hk.1, hk.2.2⟩, hk.2.1⟩)) hg hat) (blk_grown (g := gb101) (o := .cells #[.int .i64 a0_0, .slice A0_1 l0_1.length c0_1] 25 (0, 0)) zz2 hg (Kd.N_ne HO_4.out BK101.out (by decide))) (Kd.V_afterv (ok := (fun k_ => (w.heap.size ≤ k_) ∧ some k_ ≠ (.slice (some ad110) t107.length co19 : Value).ownBlock ∧ k_ ≠ gb101)) (by (with_reducible repeat (first | apply Kd.V_alloc | apply Kd.V_drewN | apply Kd.V_drew)); exact Kd.V_mono HL110_0.out (fun _ hk => ⟨⟨hk.1.1, ⟨hk.2, hk.1.2.2⟩⟩, hk.1.2.1⟩)) hg hat) hb ho; clear HO_22 BK101 HL110_0 HB HO_4; obtain ⟨HO_22, BK101, HL110_0, HB, HO114⟩ := n_; clear ho hb hg hat))); go_roundg k2; (case measure => have := HJ1.out; have := HK2.out; omega); case rel => exact ⟨(y112), (wrap64 (x24_2 + 1)), zz5, H', ⟨by have := HJ1.out; have := HK2.out; omega⟩, ⟨by (with_reducible repeat (first | apply Kd.N_alloc | apply Kd.N_drewN | apply Kd.N_drew)); exact HO114.out⟩, ⟨by (with_reducible repeat (first | apply Kd.N_alloc | apply Kd.N_drewN | apply Kd.N_drew)); exact Kd.N_mono HO_22.out (fun _ hk => ⟨hk.1.1, ⟨hk.2, hk.1.2⟩⟩)⟩, ⟨zz2⟩, ⟨zz0⟩⟩
end Go.Proofs.Ytnbljcgdgblgoaa.P
end

section
namespace Go.Proofs.Ytnbljcgdgblgoaa.Cf
set_option linter.unusedVariables false
set_option linter.unusedSimpArgs false
open Go.RowKit Go.Proofs.YtnbljcgdgblgoaaW.PrintWords Go.Proofs.Ytnbljcgdgblgoaa.P
theorem specAll_l0 (m : Nat) (hm : m ≤ 100) : ∀ (d i : Nat), i + d = m → Ep (fun k => spec_l03All.l0 k (m : Int) (upTo i) (i : Int)) (· = upTo m) := by
  intro d
  induction d with
  | zero =>
    intro i hi
    refine Ep.up ?_
    simp only [spec_l03All.l0]
    refine Ep.neg (by omega) (Ep.now ?_)
    rw [show i = m by omega]
  | succ d ih =>
    intro i hi
    have h := ih (i + 1) (by omega)
    have e : upTo (i + 1) = upTo i ++ [(i : Int)] := by unfold upTo; rw [List.range_succ, List.map_append]; rfl
    rw [e] at h
    have hl : (upTo i).length = i := by unfold upTo; simp
    refine Ep.up ?_
    simp only [spec_l03All.l0]
    refine Ep.pos (by omega) (Ep.pos (by omega) ?_)
    rw [wrap_succ (by omega)]
    exact h
theorem specAll (m : Nat) (hm : m ≤ 100) : Ep (fun k => spec_l03All.f k (m : Int)) (· = upTo m) := by
  simp only [spec_l03All.f]
  exact specAll_l0 m hm m 0 (by omega)
theorem specDeterminant {m : Nat} (hm : m ≤ 5) {M : List (List Int)} (hM : SqOk m M) : Ep (fun k => spec_Determinant.f k M) (· = detL M (upTo m) (upTo m)) := by
  have hM1 := hM.1
  have hu : (upTo m).length = m := by unfold upTo; simp
  simp only [spec_Determinant.f]
  refine Ep.bind (specMatrixOk hm hM) ?_
  rintro _ rfl
  rw [hM1]
  refine Ep.pos rfl (Ep.bind (specAll m (by omega)) ?_)
  rintro _ rfl
  refine Ep.bind (specAll m (by omega)) ?_
  rintro _ rfl
  refine Ep.bind (specDet hm hM (upTo m) (by omega) (fun r hr => upTo_mem.1 hr) (upTo m) (by omega) (fun r hr => upTo_mem.1 hr)) ?_
  rintro _ rfl
  exact Ep.now rfl
theorem specCountTrees {n : Nat} {es : List E} (hg : GOk (n : Int) es) : Ep (fun k => spec_CountTrees.f k (n : Int) es) (· = dlap es (vsL n 0)) := by
  have hG := hg.1
  unfold EsOk at hG
  simp only [spec_CountTrees.f]
  refine Ep.bind (specGraph _ _) ?_
  rintro _ rfl
  refine Ep.pos (gOk_iff.2 hg) (Ep.bind (specRL hg (q := 0) (by omega)) ?_)
  rintro _ rfl
  refine Ep.bind (specDeterminant (by omega) (redM_sq (q := 0) (by omega) hG.2.2.1)) ?_
  rintro _ rfl
  rw [redM_det (by omega)]
  exact Ep.now rfl
/-- An answer for each of a list's elements, with one number of rounds. -/
theorem Ep.all {α β : Type} {f : Nat → α → Option β} {g : α → β} : ∀ (L : List α), (∀ x ∈ L, Ep (fun k => f k x) (· = g x)) → ∃ K, ∀ k, K ≤ k → ∀ x ∈ L, f k x = some (g x)
  | [], _ => ⟨0, fun k _ x hx => absurd hx List.not_mem_nil⟩
  | a :: L, h => by
    obtain ⟨K, hK⟩ := Ep.all L fun x hx => h x (List.mem_cons_of_mem _ hx)
    obtain ⟨_, rfl, J, hJ⟩ := h a List.mem_cons_self
    refine ⟨max K J, fun k hk x hx => ?_⟩
    rcases List.mem_cons.1 hx with rfl | hx
    · exact hJ k (by omega)
    · exact hK k (by omega) x hx
def lexB : List Int → List Int → Bool
  | x :: xs, y :: ys => if x = y then lexB xs ys else decide (x < y)
  | _, _ => false
theorem lexB_asymm : ∀ {a b : List Int}, lexB a b = true → lexB b a = false
  | [], b, h => by simp [lexB] at h
  | x :: xs, [], h => by simp [lexB] at h
  | x :: xs, y :: ys, h => by
    unfold lexB at h ⊢
    by_cases e : x = y
    · rw [if_pos e] at h
      rw [if_pos e.symm]
      exact lexB_asymm h
    · rw [if_neg e] at h
      rw [if_neg (fun h2 => e h2.symm)]
      have := of_decide_eq_true h
      exact decide_eq_false (by omega)
theorem lexB_app : ∀ {a b : List Int} (s t : List Int), a.length = b.length → lexB a b = true → lexB (a ++ s) (b ++ t) = true
  | [], b, s, t, _, h => by simp [lexB] at h
  | x :: xs, [], s, t, _, h => by simp [lexB] at h
  | x :: xs, y :: ys, s, t, hl, h => by
    unfold lexB at h
    show (if x = y then lexB (xs ++ s) (ys ++ t) else decide (x < y)) = true
    by_cases e : x = y
    · rw [if_pos e] at h ⊢
      exact lexB_app s t (by simpa using hl) h
    · rw [if_neg e] at h ⊢
      exact h
theorem lexB_same : ∀ (a : List Int) (s t : Int), s < t → lexB (a ++ [s]) (a ++ [t]) = true
  | [], s, t, h => by
    show (if s = t then lexB [] [] else decide (s < t)) = true
    rw [if_neg (by omega)]
    exact decide_eq_true h
  | x :: xs, s, t, h => by
    show (if x = x then lexB (xs ++ [s]) (xs ++ [t]) else decide (x < x)) = true
    rw [if_pos rfl]
    exact lexB_same xs s t h
theorem lexB_set : ∀ {a b : List Int} (q : Nat) (z : Int), a.getD q 0 = b.getD q 0 → lexB a b = true → lexB (a.set q z) (b.set q z) = true
  | [], b, q, z, _, h => by simp [lexB] at h
  | x :: xs, [], q, z, _, h => by simp [lexB] at h
  | x :: xs, y :: ys, 0, z, hq, h => by
    have e : x = y := hq
    unfold lexB at h
    rw [if_pos e] at h
    show (if z = z then lexB xs ys else decide (z < z)) = true
    rw [if_pos rfl]
    exact h
  | x :: xs, y :: ys, q + 1, z, hq, h => by
    unfold lexB at h
    show (if x = y then lexB (xs.set q z) (ys.set q z) else decide (x < y)) = true
    by_cases e : x = y
    · rw [if_pos e] at h ⊢
      exact lexB_set q z hq h
    · rw [if_neg e] at h ⊢
      exact h
theorem box_lex (c : Nat → Nat) : ∀ n, (boxL c n).Pairwise (fun a b => lexB a b = true)
  | 0 => List.pairwise_singleton _ _
  | n + 1 => by
    rw [boxL, List.pairwise_flatMap]
    refine ⟨fun a _ => ?_, ?_⟩
    · unfold extB
      rw [List.pairwise_map]
      exact List.pairwise_lt_range.imp fun h => lexB_same a _ _ (by omega)
    · refine List.Pairwise.imp_of_mem ?_ (box_lex c n)
      intro a b ha hb h x hx y hy
      unfold extB at hx hy
      obtain ⟨s, _, rfl⟩ := List.mem_map.1 hx
      obtain ⟨t, _, rfl⟩ := List.mem_map.1 hy
      exact lexB_app _ _ ((boxL_row ha).1.trans (boxL_row hb).1.symm) h
theorem less_l0 (a b : List Int) (hl : a.length = b.length) (hb : a.length ≤ 1000) : ∀ (d i : Nat), i + d = a.length → Ep (fun k => spec_l09Less.l0 k b a (a.length : Int) (i : Int)) (· = lexB (a.drop i) (b.drop i)) := by
  intro d
  induction d with
  | zero =>
    intro i hi
    refine Ep.up ?_
    simp only [spec_l09Less.l0]
    refine Ep.neg (by omega) (Ep.now ?_)
    rw [List.drop_eq_nil_of_le (by omega)]
    rfl
  | succ d ih =>
    intro i hi
    have h := ih (i + 1) (by omega)
    have ha : i < a.length := by omega
    have hb2 : i < b.length := by omega
    refine Ep.up ?_
    simp only [spec_l09Less.l0]
    refine Ep.pos (by omega) (Ep.pos (by omega) (Ep.pos (by omega) (Ep.pos (by omega) ?_)))
    rw [List.drop_eq_getElem_cons ha, List.drop_eq_getElem_cons hb2, rd_get ha, rd_get hb2, wrap_succ (by omega)]
    by_cases e : a[i] = b[i]
    · refine Ep.pos e (h.mono fun r hr => hr.trans ?_)
      show _ = if a[i] = b[i] then _ else _
      rw [if_pos e]
    · refine Ep.neg e (Ep.now ?_)
      show _ = if a[i] = b[i] then _ else _
      rw [if_neg e]
theorem specLess (a b : List Int) (hl : a.length = b.length) (hb : a.length ≤ 1000) : Ep (fun k => spec_l09Less.f k a b) (· = lexB a b) := by
  simp only [spec_l09Less.f]
  exact less_l0 a b hl hb a.length 0 (by omega)
theorem kpos_stop {α : Type} {lt : α → α → Bool} {x : α} {Z : List α} (h : ∀ y ∈ Z, lt x y = false) : kpos lt x Z Z.length = Z.length := by
  cases hz : Z.length with
  | zero => rfl
  | succ k =>
    have hk : k < Z.length := by omega
    rw [kpos_at lt x (List.getElem?_eq_getElem hk), if_neg]
    rw [h _ (List.getElem_mem hk)]
    simp
theorem sort_id {α : Type} {lt : α → α → Bool} {l : List α} (h : l.Pairwise fun a b => lt b a = false) : ∀ i, i ≤ l.length → sortB lt l i = l.take i
  | 0, _ => rfl
  | i + 1, hi => by
    have hlt : i < l.length := by omega
    rw [sortB_succ lt (List.getElem?_eq_getElem hlt), sort_id h i (by omega), List.take_succ_eq_append_getElem hlt]
    unfold insB
    rw [kpos_stop, List.take_length, List.drop_length]
    intro y hy
    obtain ⟨j, hj, rfl⟩ := List.getElem_of_mem hy
    rw [List.length_take] at hj
    rw [List.getElem_take]
    exact List.pairwise_iff_getElem.1 h j i (by omega) hlt (by omega)
theorem specSort {L : List (List Int)} {n : Nat} (hn : n ≤ 1000) (hr : ∀ x ∈ L, x.length = n) (hl : L.length ≤ 1000000) (h : L.Pairwise fun a b => lexB a b = true) : Ep (fun k => spec_l09Sort.f k L) (· = L) := by
  obtain ⟨K, hK⟩ := Ep.all (f := fun k (p : List Int × List Int) => spec_l09Less.f k p.1 p.2) (g := fun p => lexB p.1 p.2) (L.flatMap fun x => L.map fun y => (x, y)) (by
    intro p hp
    obtain ⟨x, hx, hp⟩ := List.mem_flatMap.1 hp
    obtain ⟨y, hy, rfl⟩ := List.mem_map.1 hp
    exact specLess x y ((hr x hx).trans (hr y hy).symm) (by rw [hr x hx]; exact hn))
  have hK2 : ∀ k, K ≤ k → ∀ x ∈ L, ∀ y ∈ L, spec_l09Less.f k x y = some (lexB x y) := fun k hk x hx y hy => hK k hk (x, y) (List.mem_flatMap.2 ⟨x, hx, List.mem_map.2 ⟨y, hy, rfl⟩⟩)
  refine ⟨_, rfl, K, fun k hk => ?_⟩
  show spec_l09Sort.f k L = some L
  unfold spec_l09Sort.f
  rw [if_pos ⟨hl, fun x hx y hy => by rw [hK2 k hk x hx y hy]; rfl⟩]
  congr 1
  have hs := sort_id (lt := spec_l09Sort.lt k) (l := L) (by
    refine List.Pairwise.imp_of_mem ?_ h
    intro a b ha hb hab
    unfold spec_l09Sort.lt
    rw [hK2 k hk b hb a ha, lexB_asymm hab]
    rfl) L.length (Nat.le_refl _)
  rw [hs, List.take_length]
def cntP (es : List E) (q : Int) (v : Nat) : Nat := if (v : Int) = q then 1 else (val es (v : Int)).toNat
def pB (n : Nat) (es : List E) (q : Int) (x : List Int) : Bool := decide ((burnF n es (rd x) q).length = n)
def redL (n : Nat) (es : List E) (q : Int) : List (List Int) := (boxL (cntP es q) n).filter (pB n es q)
def pkL (n : Nat) (es : List E) (q : Int) : List (List Int) := (redL n es q).map fun x => x.set q.toNat (-1)
theorem box_congr {c d : Nat → Nat} : ∀ {n : Nat}, (∀ v, v < n → c v = d v) → boxL c n = boxL d n
  | 0, _ => rfl
  | n + 1, h => by rw [boxL, boxL, box_congr fun v hv => h v (by omega), h n (by omega)]
theorem box_len1 {c : Nat → Nat} {b q : Nat} (hb : 1 ≤ b) (hq : c q ≤ 1) : ∀ {v : Nat}, (∀ u, u < v → c u ≤ b) → (boxL c v).length ≤ if q < v then b ^ (v - 1) else b ^ v
  | 0, _ => by rw [if_neg (by omega)]; exact Nat.le_refl _
  | v + 1, h => by
    have ih := box_len1 hb hq (v := v) fun u hu => h u (by omega)
    show ((boxL c v).flatMap (extB (c v))).length ≤ _
    rw [flatB_len]
    by_cases e : q < v
    · rw [if_pos e] at ih
      rw [if_pos (by omega)]
      have := Nat.mul_le_mul ih (h v (by omega))
      rwa [← Nat.pow_succ, show (v - 1).succ = v + 1 - 1 by omega] at this
    · rw [if_neg e] at ih
      by_cases e2 : q = v
      · subst e2
        rw [if_pos (by omega), Nat.add_sub_cancel]
        have := Nat.mul_le_mul ih hq
        omega
      · rw [if_neg (by omega), Nat.pow_succ]
        exact Nat.mul_le_mul ih (h v (by omega))
section
variable {n : Nat} {es : List E} {q : Int}
theorem val_bd (g : Gr n es q) (v : Int) : val es v ≤ 12 := by have := val_le es v; have := g.hel; omega
theorem val_ge (g : Gr n es q) {v : Nat} (hv : v < n) (hne : (v : Int) ≠ q) : 1 ≤ val es (v : Int) := by
  have := val_pos g.hj g.hq ⟨by omega, by omega⟩ hne
  omega
theorem cntP_le (g : Gr n es q) (v : Nat) : cntP es q v ≤ 12 := by
  unfold cntP
  have := val_bd g (v : Int)
  split <;> omega
theorem cntP_pos (g : Gr n es q) {v : Nat} (hv : v < n) : 1 ≤ cntP es q v := by
  unfold cntP
  split
  · exact Nat.le_refl _
  · rename_i h
    have := val_ge g hv h
    omega
theorem box_bd (g : Gr n es q) : (boxL (cntP es q) n).length ≤ 248832 := by
  have hq := g.hq
  have h6 := g.n6
  have h := box_len1 (c := cntP es q) (b := 12) (q := q.toNat) (by omega) (by unfold cntP; rw [if_pos (by omega)]; exact Nat.le_refl _) (v := n) fun u _ => cntP_le g u
  rw [if_pos (by omega)] at h
  exact Nat.le_trans h (Nat.pow_le_pow_right (n := 12) (by omega) (show n - 1 ≤ 5 by omega))
theorem box_pos (g : Gr n es q) : 0 < (boxL (cntP es q) n).length := by
  have key : ∀ m, m ≤ n → 0 < (boxL (cntP es q) m).length := by
    intro m
    induction m with
    | zero => intro _; exact Nat.one_pos
    | succ m ih =>
      intro hm
      show 0 < ((boxL (cntP es q) m).flatMap (extB (cntP es q m))).length
      rw [flatB_len]
      exact Nat.mul_pos (ih (by omega)) (cntP_pos g (by omega))
  exact key n (Nat.le_refl _)
theorem burn_le (g : Gr n es q) (x : List Int) : (burnF n es (rd x) q).length ≤ n := (burnF_ok (es := es) (d := rd x) g.hq).1.len g.hq
theorem redL_mem {x : List Int} (h : x ∈ redL n es q) : x.length = n ∧ ∀ (j : Nat) (hj : j < x.length), 0 ≤ x[j] ∧ x[j] < (cntP es q j : Int) := boxL_row (List.mem_filter.1 h).1
theorem redL_len (g : Gr n es q) : (redL n es q).length ≤ 248832 := Nat.le_trans (List.length_filter_le _ _) (box_bd g)
theorem redL_q (g : Gr n es q) {x : List Int} (h : x ∈ redL n es q) : x.getD q.toNat 0 = 0 := by
  have hq := g.hq
  obtain ⟨h1, h2⟩ := redL_mem h
  have hl : q.toNat < x.length := by omega
  have h3 := h2 q.toNat hl
  have h4 : cntP es q q.toNat = 1 := by unfold cntP; rw [if_pos (by omega)]
  rw [h4] at h3
  rw [List.getD_eq_getElem?_getD, List.getElem?_eq_getElem hl]
  simp only [Option.getD_some]
  omega
theorem pkL_lex (g : Gr n es q) : (pkL n es q).Pairwise fun a b => lexB a b = true := by
  unfold pkL
  rw [List.pairwise_map]
  have h := (box_lex (cntP es q) n).sublist (List.filter_sublist (p := pB n es q))
  refine List.Pairwise.imp_of_mem ?_ h
  intro a b ha hb hab
  exact lexB_set _ _ ((redL_q g ha).trans (redL_q g hb).symm) hab
theorem pkL_row {x : List Int} (h : x ∈ pkL n es q) : x.length = n := by
  obtain ⟨y, hy, rfl⟩ := List.mem_map.1 h
  rw [List.length_set]
  exact (redL_mem hy).1
theorem pkL_len (g : Gr n es q) : (pkL n es q).length ≤ 248832 := by unfold pkL; rw [List.length_map]; exact redL_len g
theorem implRed (g : Gr n es q) : Ep (fun k => impl_reducedAt.f k (n : Int) es q) (· = redL n es q) := by
  have h6 := g.n6
  have hel := g.hel
  obtain ⟨K1, hK1⟩ := Ep.all (f := fun k (v : Nat) => impl_Valence.f k (n : Int) es (v : Int)) (g := fun v => valG (n : Int) es (v : Int)) (List.range n) fun v _ => implValence (n : Int) es (v : Int) (by omega)
  obtain ⟨K2, hK2⟩ := Ep.all (f := fun k x => impl_burn.f k (n : Int) es x q) (g := fun x => burnF n es (rd x) q) (boxL (cntP es q) n) fun x hx => implBurn g x (boxL_row hx).1
  refine ⟨_, rfl, max K1 K2, fun k hk => ?_⟩
  have hv : ∀ v, v < n → impl_Valence.f k (n : Int) es (v : Int) = some (val es (v : Int)) := fun v hv => by rw [hK1 k (by omega) v (List.mem_range.2 hv), valG_in ⟨by omega, by omega⟩]
  have hb := hK2 k (by omega)
  have e1 : boxL (impl_reducedAt.cnt k (n : Int) es q) n = boxL (cntP es q) n := box_congr fun v hv' => by
    unfold impl_reducedAt.cnt cntP
    rw [hv v hv']
    rfl
  have hnn : ((n : Int)).toNat = n := Int.toNat_natCast n
  show impl_reducedAt.f k (n : Int) es q = some (redL n es q)
  unfold impl_reducedAt.f
  rw [if_pos]
  · rw [hnn, e1]
    congr 1
    refine List.filter_congr fun x hx => ?_
    have hle := burn_le g x
    unfold impl_reducedAt.pr pB
    rw [hb x hx]
    show (!decide (((burnF n es (rd x) q).length : Int) < (n : Int))) = decide ((burnF n es (rd x) q).length = n)
    by_cases e : (burnF n es (rd x) q).length = n
    · rw [decide_eq_true e, decide_eq_false (by omega)]; rfl
    · rw [decide_eq_false e, decide_eq_true (by omega)]; rfl
  · refine ⟨⟨by omega, fun v hv' => ?_⟩, fun x hx => ?_, ?_⟩
    · rw [hnn] at hv'
      rw [hv v hv']
      have h0 : 0 ≤ val es (v : Int) := by
        by_cases e : (v : Int) = q
        · exact val_nonneg es _
        · have := val_ge g hv' e; omega
      have := val_bd g (v : Int)
      exact ⟨rfl, by simpa using h0, by simp only [Option.getD_some]; omega⟩
    · rw [hnn, e1] at hx
      rw [hb x hx]
      rfl
    · rw [hnn, e1]
      exact box_pos g
theorem specRed (g : Gr n es q) : Ep (fun k => spec_l11All.f k (n : Int) es q) (· = redL n es q) := by
  have h6 := g.n6
  have hel := g.hel
  obtain ⟨K1, hK1⟩ := Ep.all (f := fun k (v : Nat) => spec_Valence.f k (n : Int) es (v : Int)) (g := fun v => valG (n : Int) es (v : Int)) (List.range n) fun v _ => specValence (n : Int) es (v : Int) (by omega)
  obtain ⟨K2, hK2⟩ := Ep.all (f := fun k x => spec_l05Burn.f k (n : Int) es x q) (g := fun x => burnF n es (rd x) q) (boxL (cntP es q) n) fun x hx => specBurn g x (boxL_row hx).1
  refine ⟨_, rfl, max K1 K2, fun k hk => ?_⟩
  have hv : ∀ v, v < n → spec_Valence.f k (n : Int) es (v : Int) = some (val es (v : Int)) := fun v hv => by rw [hK1 k (by omega) v (List.mem_range.2 hv), valG_in ⟨by omega, by omega⟩]
  have hb := hK2 k (by omega)
  have hnn : ((n : Int)).toNat = n := Int.toNat_natCast n
  have e1 : dfsB (spec_l11All.cnt k (n : Int) es q) n 0 [] = boxL (cntP es q) n := by
    rw [dfs_box]
    refine box_congr fun v hv' => ?_
    unfold spec_l11All.cnt cntP
    rw [hv v hv']
    by_cases e : (v : Int) = q
    · rw [if_pos e, if_pos e]
    · rw [if_neg e, if_neg e]
      have := val_ge g hv' e
      show (mx 1 (val es (v : Int))).toNat = _
      unfold mx
      split <;> omega
  show spec_l11All.f k (n : Int) es q = some (redL n es q)
  unfold spec_l11All.f
  rw [if_pos]
  · rw [hnn, e1]
    congr 1
    refine List.filter_congr fun x hx => ?_
    unfold spec_l11All.pr pB
    rw [hb x hx]
    show decide (((burnF n es (rd x) q).length : Int) = (n : Int)) = decide ((burnF n es (rd x) q).length = n)
    by_cases e : (burnF n es (rd x) q).length = n
    · rw [decide_eq_true e, decide_eq_true (by omega)]
    · rw [decide_eq_false e, decide_eq_false (by omega)]
  · refine ⟨⟨by omega, fun v hv' => ?_⟩, fun x hx => ?_⟩
    · rw [hnn] at hv'
      rw [hv v hv']
      have h0 : 0 ≤ val es (v : Int) := by
        by_cases e : (v : Int) = q
        · exact val_nonneg es _
        · have := val_ge g hv' e; omega
      have := val_bd g (v : Int)
      exact ⟨rfl, by simpa using h0, by simp only [Option.getD_some]; omega⟩
    · rw [hnn, e1] at hx
      rw [hb x hx]
      rfl
end
open Classical in
noncomputable def pkO (n : Int) (es : List E) (q : Int) : List (List Int) × Bool := if gOk n es = true ∧ (0 ≤ q ∧ q < n) ∧ dlap es (vsL n.toNat 0) ≤ 400 then (pkL n.toNat es q, true) else ([], false)
theorem implGO {n : Nat} {es : List E} (hg : GOk (n : Int) es) : Ep (fun k => impl_GroupOrder.f k (n : Int) es) (· = dlap es (vsL n 0)) := by
  simp only [impl_GroupOrder.f]
  refine Ep.bind (implCountTrees hg) ?_
  rintro _ rfl
  exact Ep.now rfl
theorem specGO {n : Nat} {es : List E} (hg : GOk (n : Int) es) : Ep (fun k => spec_GroupOrder.f k (n : Int) es) (· = dlap es (vsL n 0)) := by
  simp only [spec_GroupOrder.f]
  refine Ep.bind (specCountTrees hg) ?_
  rintro _ rfl
  exact Ep.now rfl
theorem implPk (n : Int) (es : List E) (q : Int) (hn : Wf .i64 n) : Ep (fun k => impl_ParkingsOf.f k n es q) (· = pkO n es q) := by
  simp only [impl_ParkingsOf.f]
  refine Ep.bind0 (isVertex_eq n es q hn) ?_
  unfold pkO
  by_cases c : gOk n es = true
  · by_cases hq : 0 ≤ q ∧ q < n
    · have hg := gOk_iff.1 c
      obtain ⟨m, rfl⟩ := Int.eq_ofNat_of_zero_le (show 0 ≤ n by omega)
      have g : Gr m es q := Gr.of hg hq
      simp only [Int.toNat_natCast]
      refine Ep.pos (by rw [c, decide_eq_true hq]; rfl) (Ep.bind (implGO hg) ?_)
      rintro _ rfl
      by_cases h4 : dlap es (vsL m 0) ≤ 400
      · rw [if_pos ⟨c, hq, h4⟩]
        refine Ep.pos h4 (Ep.bind (implRed g) ?_)
        rintro _ rfl
        have hl := redL_len g
        have h6 := g.n6
        exact Ep.pos ⟨hq.1, fun x hx => by rw [(redL_mem hx).1]; exact ⟨hq.2, by omega⟩, by omega⟩ (Ep.now rfl)
      · rw [if_neg fun h => h4 h.2.2]
        exact Ep.neg h4 (Ep.now rfl)
    · rw [if_neg fun h => hq h.2.1]
      exact Ep.neg (by rw [decide_eq_false hq]; simp) (Ep.now rfl)
  · rw [if_neg fun h => c h.1]
    exact Ep.neg (by rw [Bool.eq_false_iff.2 c]; simp) (Ep.now rfl)
theorem specPk (n : Int) (es : List E) (q : Int) : Ep (fun k => spec_ParkingsOf.f k n es q) (· = pkO n es q) := by
  simp only [spec_ParkingsOf.f]
  refine Ep.bind (specGraph _ _) ?_
  rintro _ rfl
  unfold pkO
  by_cases c : gOk n es = true
  · have hg := gOk_iff.1 c
    have hG := hg.1
    unfold EsOk at hG
    refine Ep.pos c (Ep.bind0 (l01In_eq _ _ _) ?_)
    rw [wrap_id (x := n - 1) (by omega) (by omega)]
    by_cases hq : 0 ≤ q ∧ q < n
    · obtain ⟨m, rfl⟩ := Int.eq_ofNat_of_zero_le (show 0 ≤ n by omega)
      have g : Gr m es q := Gr.of hg hq
      simp only [Int.toNat_natCast]
      refine Ep.pos (decide_eq_true (by omega)) (Ep.bind (specGO hg) ?_)
      rintro _ rfl
      by_cases h4 : dlap es (vsL m 0) ≤ 400
      · rw [if_pos ⟨c, hq, h4⟩]
        refine Ep.pos h4 (Ep.bind (specRed g) ?_)
        rintro _ rfl
        have hl := redL_len g
        have h6 := g.n6
        refine Ep.pos ⟨hq.1, fun x hx => by rw [(redL_mem hx).1]; exact ⟨hq.2, by omega⟩, by omega⟩ ?_
        refine Ep.bind (specSort (L := pkL m es q) (n := m) (by omega) (fun x hx => pkL_row hx) (by have := pkL_len g; omega) (pkL_lex g)) ?_
        rintro _ rfl
        exact Ep.now rfl
      · rw [if_neg fun h => h4 h.2.2]
        exact Ep.neg h4 (Ep.now rfl)
    · rw [if_neg fun h => hq h.2.1]
      exact Ep.neg (by rw [decide_eq_false (by omega)]; simp) (Ep.now rfl)
  · rw [if_neg fun h => c h.1]
    exact Ep.neg c (Ep.now rfl)
theorem pkO_small (n : Int) (es : List E) (q : Int) : (pkO n es q).1.length ≤ 248832 ∧ ∀ r ∈ (pkO n es q).1, r.length ≤ 6 := by
  unfold pkO
  split
  · rename_i h
    have hg := gOk_iff.1 h.1
    obtain ⟨m, rfl⟩ := Int.eq_ofNat_of_zero_le (show 0 ≤ n by omega)
    have g : Gr m es q := Gr.of hg h.2.1
    rw [Int.toNat_natCast]
    exact ⟨pkL_len g, fun r hr => by have h1 := pkL_row hr; have := g.n6; omega⟩
  · exact ⟨Nat.zero_le _, fun s hs => absurd hs List.not_mem_nil⟩
end Go.Proofs.Ytnbljcgdgblgoaa.Cf
end

section
namespace Go.Proofs.Ytnbljcgdgblgoaa.Cf
set_option linter.unusedVariables false
set_option linter.unusedSimpArgs false
open Go.RowKit Go.Proofs.YtnbljcgdgblgoaaW.PrintWords Go.Proofs.Ytnbljcgdgblgoaa.P
theorem rdL_get {l : List (List Int)} {i : Nat} (h : i < l.length) : rd_L3 l (i : Int) = l[i] := by simp [rd_L3, List.getD, h]
def Small (l : List (List Int)) : Prop := l.length ≤ 1048576 ∧ ∀ r ∈ l, r.length ≤ 1048576
theorem eqIntSS_l0 (x : List (List Int)) (h : Small x) : ∀ (d i : Nat), i + d = x.length → Ep (fun k => laws_eqIntSS.l0 k x x (i : Int)) (· = true) := by
  intro d
  have := h.1
  induction d with
  | zero =>
    intro i hi
    refine Ep.up ?_
    simp only [laws_eqIntSS.l0]
    exact Ep.neg (by omega) (Ep.now rfl)
  | succ d ih =>
    intro i hi
    have hlt : i < x.length := by omega
    refine Ep.up ?_
    simp only [laws_eqIntSS.l0]
    refine Ep.pos (by omega) (Ep.pos (by omega) (Ep.pos (by omega) ?_))
    rw [rdL_get hlt, wrap_succ (by omega)]
    refine Ep.bind (eqIntS_ok _ (h.2 _ (List.getElem_mem hlt))) ?_
    rintro _ rfl
    exact Ep.pos rfl (ih (i + 1) (by omega))
theorem eqIntSS_ok (x : List (List Int)) (h : Small x) : Ep (fun k => laws_eqIntSS.f k x x) (· = true) := by
  simp only [laws_eqIntSS.f]
  exact Ep.pos trivial (eqIntSS_l0 x h x.length 0 (by omega))
/-- The rows with their marks. -/
def mksL : List (List Int) → Int → List (List Int)
  | [], _ => []
  | x :: xs, a => marks a x.length :: mksL xs (a + x.length)
/-- The next number. -/
def mksE : List (List Int) → Int → Int
  | [], a => a
  | x :: xs, a => mksE xs (a + x.length)
theorem mksE_ge : ∀ (l : List (List Int)) (a : Int), a ≤ mksE l a
  | [], a => Int.le_refl _
  | x :: xs, a => by
    have := mksE_ge xs (a + x.length)
    show a ≤ mksE xs (a + x.length)
    omega
theorem mksL_len : ∀ (l : List (List Int)) (a : Int), (mksL l a).length = l.length
  | [], a => rfl
  | x :: xs, a => by show (mksL xs (a + x.length)).length + 1 = xs.length + 1; rw [mksL_len xs]
theorem markSSR_go (l : List (List Int)) : ∀ (a : Int) (m : Nat), (∀ r ∈ l, r.length ≤ 1048576) → m + l.length ≤ 1048576 → 0 ≤ a → a ≤ 1 + (m : Int) * 1048576 → Ep (fun k => laws_markIntSS.goR k l a) (· = (mksL l a, mksE l a)) := by
  induction l with
  | nil =>
    intro a m _ _ h0 _
    simp only [laws_markIntSS.goR]
    exact Ep.now rfl
  | cons x l ih =>
    intro a m hr hl h0 h1
    rw [List.length_cons] at hl
    have hx := hr x List.mem_cons_self
    simp only [laws_markIntSS.goR]
    refine Ep.bind (markIntS_ok x a hx ⟨h0, by omega⟩) ?_
    rintro _ rfl
    refine Ep.bind (ih (a + x.length) (m + 1) (fun r h => hr r (List.mem_cons_of_mem _ h)) (by omega) (by omega) (by omega)) ?_
    rintro _ rfl
    exact Ep.now rfl
theorem markSSR_ok (l : List (List Int)) (h : Small l) : Ep (fun k => laws_markIntSS.fR k l 1) (· = (mksL l 1, mksE l 1)) := by
  have h1 := h.1
  simp only [laws_markIntSS.fR]
  exact Ep.pos h1 (markSSR_go l 1 0 h.2 (by omega) (by omega) (by omega))
theorem heldSS_l0 (R : List (List Int)) (hR : R.length ≤ 1048576) (l : List (List Int)) : ∀ (a : Int) (i : Nat), i + l.length = R.length → R.drop i = mksL l a → (∀ r ∈ l, r.length ≤ 1048576) → 0 ≤ a → a ≤ 1 + (i : Int) * 1048576 → Ep (fun k => laws_heldIntSS.l0 k R a (i : Int)) (· = mksE l a) := by
  induction l with
  | nil =>
    intro a i hi hd hr h0 h1
    rw [List.length_nil] at hi
    refine Ep.up ?_
    simp only [laws_heldIntSS.l0]
    exact Ep.neg (by omega) (Ep.now rfl)
  | cons x l ih =>
    intro a i hi hd hr h0 h1
    rw [List.length_cons] at hi
    have hlt : i < R.length := by omega
    have hd2 : R[i] :: R.drop (i + 1) = marks a x.length :: mksL l (a + x.length) := by
      rw [← List.drop_eq_getElem_cons hlt, hd]
      rfl
    injection hd2 with e1 e2
    have hx := hr x List.mem_cons_self
    have e : rd_L3 R (i : Int) = marks a x.length := by rw [rdL_get hlt, e1]
    have h := ih (a + x.length) (i + 1) (by omega) e2 (fun r h => hr r (List.mem_cons_of_mem _ h)) (by omega) (by omega)
    refine Ep.up ?_
    simp only [laws_heldIntSS.l0]
    refine Ep.pos (by omega) (Ep.pos (by omega) ?_)
    rw [e, wrap_succ (by omega)]
    refine Ep.bind (heldIntS_ok x.length a hx ⟨h0, by omega⟩) ?_
    rintro _ rfl
    exact Ep.neg (by omega) h
theorem heldSS_ok (l : List (List Int)) (h : Small l) : Ep (fun k => laws_heldIntSS.f k (mksL l 1) 1) (· = mksE l 1) := by
  have h1 := h.1
  simp only [laws_heldIntSS.f]
  exact heldSS_l0 (mksL l 1) (by rw [mksL_len]; exact h1) l 1 0 (by rw [mksL_len, Nat.zero_add]) rfl h.2 (by omega) (by omega)
theorem mksE_pos (l : List (List Int)) : ¬ mksE l 1 < 0 := by have := mksE_ge l 1; omega
def EWf (e : E) : Prop := Wf .i64 e.f0 ∧ Wf .i64 e.f1
theorem rdLE_get {es : List E} {i : Nat} (h : i < es.length) : rd_T101 es (i : Int) = es[i] := by simp [rd_T101, List.getD, h]
theorem szGraph_ok (n : Int) (es : List E) (a : Int) (ha : 0 ≤ a ∧ a ≤ 1048576) (hl : es.length ≤ 9223372036854775807) : ∃ t, laws_szGraph.f n es a = some t ∧ t ≤ 1048576 ∧ (¬ t < 0 → es.length ≤ 1048576) := by
  unfold laws_szGraph.f laws_szEdgeS.f
  rw [wrap_id (by omega) (by omega)]
  by_cases h : a - (es.length : Int) < 0
  · refine ⟨-1, ?_, by omega, by omega⟩
    rw [if_pos h]
    simp
  · refine ⟨a - es.length, ?_, by omega, by omega⟩
    rw [if_neg h]
    simp only [Option.bind_some]
    rw [if_neg h]
theorem toEdgeS_l0 (x0 : List E) (h : x0.length ≤ 1048576) : ∀ (d i : Nat) (x3 : List E), i + d = x0.length → x3.length = x0.length → (∀ j, j < i → x3[j]? = x0[j]?) → Ep (fun k => laws_toEdgeS.l0 k x0 x3 (i : Int)) (· = x0) := by
  intro d
  induction d with
  | zero =>
    intro i x3 hi hl hx
    refine Ep.up ?_
    simp only [laws_toEdgeS.l0]
    refine Ep.neg (by omega) (Ep.now ?_)
    apply List.ext_getElem?
    intro j
    by_cases hj : j < i
    · exact hx j hj
    · rw [List.getElem?_eq_none (by omega), List.getElem?_eq_none (by omega)]
  | succ d ih =>
    intro i x3 hi hl hx
    have hlt : i < x0.length := by omega
    refine Ep.up ?_
    simp only [laws_toEdgeS.l0]
    refine Ep.pos (by omega) (Ep.pos (by omega) ?_)
    rw [rdLE_get hlt, wrap_succ (by omega)]
    refine Ep.bind0 rfl (Ep.pos (by omega) ?_)
    refine ih (i + 1) _ (by omega) (by simpa using hl) ?_
    intro j hj
    rw [Int.toNat_natCast]
    by_cases e : i = j
    · subst e
      rw [List.getElem?_set_self (by omega), List.getElem?_eq_getElem (by omega)]
    · rw [List.getElem?_set_ne e]
      exact hx j (by omega)
theorem toGraph_ok (n : Int) (es : List E) (h : es.length ≤ 1048576) : Ep (fun k => laws_toGraph.f k n es) (· = (n, es)) := by
  simp only [laws_toGraph.f, laws_toEdgeS.f]
  refine Ep.bind (P := (· = es)) (Ep.pos (by omega) (Ep.pos (by simp; omega) ?_)) ?_
  · exact toEdgeS_l0 es h es.length 0 _ (by omega) (by simp) (fun j hj => by omega)
  · rintro _ rfl
    exact Ep.now rfl
theorem eqEdge_ok (a b : Int) : laws_eqEdge.f a b a b = some true := by simp [laws_eqEdge.f]
theorem eqEdgeS_l0 (x : List E) (h : x.length ≤ 1048576) : ∀ (d i : Nat), i + d = x.length → Ep (fun k => laws_eqEdgeS.l0 k x x (i : Int)) (· = true) := by
  intro d
  induction d with
  | zero =>
    intro i hi
    refine Ep.up ?_
    simp only [laws_eqEdgeS.l0]
    exact Ep.neg (by omega) (Ep.now rfl)
  | succ d ih =>
    intro i hi
    refine Ep.up ?_
    simp only [laws_eqEdgeS.l0]
    refine Ep.pos (by omega) (Ep.pos (by omega) (Ep.pos (by omega) ?_))
    rw [wrap_succ (by omega)]
    exact Ep.bind0 (eqEdge_ok _ _) (Ep.pos rfl (ih (i + 1) (by omega)))
theorem eqGraph_ok (n : Int) (es : List E) (h : es.length ≤ 1048576) : Ep (fun k => laws_eqGraph.f k n es n es) (· = true) := by
  simp only [laws_eqGraph.f]
  refine Ep.pos trivial (Ep.bind (P := (· = true)) ?_ ?_)
  · simp only [laws_eqEdgeS.f]
    exact Ep.pos trivial (eqEdgeS_l0 es h es.length 0 (by omega))
  · rintro _ rfl
    exact Ep.pos rfl (Ep.now rfl)
theorem markEdgeS_l0 (n : Nat) (hn : n ≤ 1048576) {B : Int} (hB : B ≤ 1099511627776) : ∀ (d i : Nat) (x : List E) (a : Int), i + d = n → x.length = n → 0 ≤ a → a + 2 * d ≤ B → Ep (fun k => laws_markEdgeS.l0 k x a (i : Int)) (fun r => 0 ≤ r.1 ∧ r.1 ≤ B) := by
  intro d
  induction d with
  | zero =>
    intro i x a hi hx h0 ha
    refine Ep.up ?_
    simp only [laws_markEdgeS.l0]
    exact Ep.neg (by omega) (Ep.now ⟨h0, by omega⟩)
  | succ d ih =>
    intro i x a hi hx h0 ha
    refine Ep.up ?_
    simp only [laws_markEdgeS.l0]
    refine Ep.pos (by omega) (Ep.pos (by omega) (Ep.bind0 rfl ?_))
    rw [wrap_succ (by omega), wrap_id (x := a + 1) (by omega) (by omega), wrap_id (x := a + 1 + 1) (by omega) (by omega)]
    exact ih (i + 1) _ _ (by omega) (by simpa using hx) (by omega) (by omega)
theorem markGraph_ok (n : Int) (es : List E) (a : Int) (h : es.length ≤ 1048576) (ha : 0 ≤ a ∧ a ≤ 1000) : Ep (fun k => laws_markGraph.f k n es a) (fun r => 0 ≤ r.1 ∧ r.1 ≤ 3000000) := by
  have := markEdgeS_l0 es.length h (B := 3000000) (by omega) es.length 0 es a (by omega) rfl ha.1 (by omega)
  simp only [laws_markGraph.f, laws_markEdgeS.f]
  refine Ep.bind this ?_
  intro r hr
  exact Ep.now hr
theorem law_FnExactParkingsOf (n : Int) (es : List E) (q : Int) (hn : Wf .i64 n) (hes : SL EWf es) (wq : Wf .i64 q) : Ep (fun k => laws_FnExactParkingsOf.f k n es q) (· = true) := by
  have hS : Small (pkO n es q).1 := ⟨by have := (pkO_small n es q).1; omega, fun r hr => by have := (pkO_small n es q).2 r hr; omega⟩
  simp only [laws_FnExactParkingsOf.f]
  obtain ⟨t, ht, _, h2⟩ := szGraph_ok n es 1048576 (by omega) hes.1
  refine Ep.bind0 ht (Ep.ite (fun _ => Ep.now rfl) (fun hc2 => ?_))
  have hel := h2 hc2
  refine Ep.bind (toGraph_ok _ _ hel) ?_
  rintro _ rfl
  refine Ep.bind (specPk _ _ _) ?_
  rintro _ rfl
  refine Ep.bind (toGraph_ok _ _ hel) ?_
  rintro _ rfl
  refine Ep.bind (implPk _ _ _ hn) ?_
  rintro _ rfl
  simp only [laws_FnExactParkingsOf.tail]
  refine Ep.bind (eqIntSS_ok _ hS) ?_
  rintro _ rfl
  refine Ep.pos rfl (Ep.pos (by first | rfl | trivial) (Ep.bind (toGraph_ok _ _ hel) ?_))
  rintro _ rfl
  refine Ep.bind (eqGraph_ok _ _ hel) ?_
  rintro _ rfl
  refine Ep.pos rfl (Ep.bind (markGraph_ok _ _ 1 hel (by omega)) ?_)
  intro r hr
  refine Ep.neg (by omega) (Ep.bind (eqIntSS_ok _ hS) ?_)
  rintro _ rfl
  refine Ep.pos rfl (Ep.bind (markSSR_ok _ hS) ?_)
  rintro _ rfl
  simp only [laws_FnExactParkingsOf.tail2]
  refine Ep.bind (heldSS_ok _ hS) ?_
  rintro _ rfl
  refine Ep.neg (mksE_pos _) (Ep.pos (by first | rfl | trivial) (Ep.bind (toGraph_ok _ _ hel) ?_))
  rintro _ rfl
  refine Ep.bind (implPk _ _ _ hn) ?_
  rintro _ rfl
  refine Ep.bind (eqIntSS_ok _ hS) ?_
  rintro _ rfl
  refine Ep.pos rfl (Ep.pos (by first | rfl | trivial) (Ep.bind (heldSS_ok _ hS) ?_))
  rintro _ rfl
  exact Ep.neg (mksE_pos _) (Ep.pos (by first | rfl | trivial) (Ep.now rfl))
end Go.Proofs.Ytnbljcgdgblgoaa.Cf
end

section
namespace Go.Proofs.Ytnbljcgdgblgoaa.Cf
set_option linter.unusedVariables false
set_option linter.unusedSimpArgs false
open Go.RowKit Go.ChangeShapes Go.WideShapes Go.Deep Go.Joins Go.Proofs.YtnbljcgdgblgoaaW.PrintWords
section
variable {H : Type} {enc : TypeId × Value → H} {P : Program} {w : World} {base : Nat} {spare : Nat → Bool} {held : Bool}
/-- A slice, whatever its elements are, if each of them can be told. -/
theorem trod_C {α : Type} {d : Kd α} {Q : α → Prop} (hd : Inhabited α) {t e : TypeId} {fuel : Nat} {cs : List Value} {x : DataW H × List MemPlace} (ht : P.underlying t = some (.slice e)) (hsz : P.cellsOf e = d.sz)
    (hel : ∀ (n : Nat) (cs : List Value) (y : DataW H × List MemPlace), DataW.trod enc P w base spare held n e cs = some y → ∃ a : α, d.K w a cs ∧ Q a)
    (h : DataW.trod enc P w base spare held fuel t cs = some x) : ∃ A len cap xs, cs = [.slice A len cap] ∧ xs.length = len ∧ len ≤ cap ∧ Kd.C d w A len xs ∧ SL Q xs := by
  rcases open_slice ht h with ⟨rfl, _⟩ | ⟨a, len, cap, m, n, D, Pl, rfl, _, hl, hm, hmm, _, hx⟩
  · exact ⟨none, 0, 0, [], rfl, rfl, Nat.le_refl _, ⟨rfl, by omega, fun hn => by omega⟩, by simp, fun x hx => by cases hx⟩
  · have hlm : len ≤ m := by rw [hmm]; split <;> omega
    obtain ⟨X, hX⟩ := choose_lt (α := α) (n := len) (p := fun i z => Q z ∧ ∃ c, c.length = d.sz ∧ d.K w z c ∧ ∀ j u, c[j]? = some u → w.cell? (a.add (i * d.sz + j)) = some u) (fun i hi => by
      obtain ⟨cs', h1, h2⟩ := hx i (by omega)
      obtain ⟨z, hz, hq⟩ := hel n cs' _ h2
      obtain ⟨_, hlen, hc⟩ := World.cells?_some h1
      refine ⟨z, hq, cs', by rw [hlen, hsz], hz, fun j u hj => ?_⟩
      have hjl : j < cs'.length := by
        apply Classical.byContradiction
        intro hc
        rw [List.getElem?_eq_none (by omega)] at hj
        cases hj
      have := hc j (by omega)
      rw [Deep.add_add, hsz] at this
      rw [this, hj])
    refine ⟨some a, len, cap, (List.range len).map X, rfl, by simp, hl, ⟨by simp, ?_, fun _ => ⟨a, rfl, fun j p hj => ?_⟩⟩, by simp; unfold maxLen at hm; omega, fun x hx => ?_⟩
    · unfold maxLen at hm
      omega
    · have hjl : j < len := by
        apply Classical.byContradiction
        intro hc
        rw [List.getElem?_eq_none (by simp; omega)] at hj
        cases hj
      have : p = X j := by
        rw [List.getElem?_eq_getElem (by simpa using hjl)] at hj
        simpa using hj.symm
      subst this
      exact (hX j hjl).2
    · obtain ⟨i, hi, rfl⟩ := List.mem_map.1 hx
      exact (hX i (List.mem_range.1 hi)).1
/-- A struct of two numbers. -/
theorem el_pair {k0 k1 : IntKind} {e : TypeId} {f0 f1 : Field} (he : P.underlying e = some (.struct #[f0, f1])) (ce : P.cellsOf e = 2) (o0 : f0.offset = 0) (o1 : f1.offset = 1) (c0 : P.cellsOf f0.type = 1) (c1 : P.cellsOf f1.type = 1)
    (u0 : P.underlying f0.type = some (.int k0)) (u1 : P.underlying f1.type = some (.int k1)) :
    ∀ (n : Nat) (cs : List Value) (y : DataW H × List MemPlace), DataW.trod enc P w base spare held n e cs = some y → ∃ a b : Int, cs = [.int k0 a, .int k1 b] ∧ Wf k0 a ∧ Wf k1 b := by
  intro n cs y h
  obtain ⟨y0, y1, m, _, hl, h0, h1⟩ := trod_struct2 he h
  rw [ce] at hl
  rw [o0, c0] at h0
  rw [o1, c1] at h1
  match cs, hl with
  | [a, b], _ =>
    obtain ⟨x, hx, _, wx⟩ := DataW.trod_int u0 h0
    obtain ⟨z, hz, _, wz⟩ := DataW.trod_int u1 h1
    simp at hx hz
    subst hx; subst hz
    exact ⟨x, z, rfl, wx, wz⟩
/-- A struct of a number and a slice that comes in. -/
theorem arg_graph {α : Type} {d : Kd α} {Q : α → Prop} (hd : Inhabited α) {r : Reach} {b0 : Nat} {t e : TypeId} {f0 f1 : Field} {v : Value} {x : DataW H} {p : List MemPlace} (hs : P.underlying t = some (.struct #[f0, f1])) (hone : oneCellFields P #[f0, f1] = true) (hC : P.cellsOf t = 2)
    (u0 : P.underlying f0.type = some (.int .i64)) (u1 : P.underlying f1.type = some (.slice e)) (hsz : P.cellsOf e = d.sz)
    (hel : ∀ (n : Nat) (cs : List Value) (y : DataW H × List MemPlace), DataW.trod enc P w base spare held n e cs = some y → ∃ a : α, d.K w a cs ∧ Q a)
    (hv : Value.okWide P w r b0 t v) (h : DataW.Trod enc P w base spare held t v x p) : ∃ n a len cap, ∃ xs : List α, v = .agg #[.int .i64 n, .slice a len cap] ∧ Wf .i64 n ∧ xs.length = len ∧ len ≤ cap ∧ Kd.C d w a len xs ∧ SL Q xs := by
  obtain ⟨v0, v1, y0, y1, m, rfl, _, _, h0, h1⟩ := open_agg2 hs hone hC hv h
  obtain ⟨n, hn, _, hw⟩ := DataW.trod_int u0 h0
  obtain ⟨A, len, cap, xs, hcs, hl, hc, hx, hq⟩ := trod_C hd u1 hsz hel h1
  simp at hn hcs
  subst hn; subst hcs
  exact ⟨n, A, len, cap, xs, rfl, hw, hl, hc, hx, hq⟩
end
end Go.Proofs.Ytnbljcgdgblgoaa.Cf
end

section
namespace Go.Proofs.Ytnbljcgdgblgoaa.Cf
theorem and2 {a b : Bool} (h : a = true) (k : b = true) : (a && b) = true := by rw [h, k]; rfl
theorem iniS : Try.prog.initOrder.toList = ['h', 'a', 'r', 'n', 'e', 's', 's', ' ', '7', '7', 'e', '8', '6', '8', '8', '4', '3', '1', '7', '7', '9', '4', '0', '4', 'c', 'd', '0', 'c', 'e', '6', '8', '9', '8', 'd', '7', '5', '4', '5', '0', '2', '9', '1', 'f', 'e', 'f', '0', '4', 'e', '5', '4', '5', 'd', '0', '7', 'e', '5', '1', 'd', '3', '2', 'd', '9', 'b', 'a', '3', '9', 'a', '1', '2', '9', 'e', 'e', ' ', 'c', 'u', 't', ' ', 'a', 't', ' ', 'l', 'o', 'o', 'p', '.', 'e', 'x', 'a', 'm', 'p', 'l', 'e', '/', 'g', '0', '0', '8', '4', '1', '/', 'l', 'a', 'w', 's', '.', 'F', 'n', 'P', 'a', 'r', 'k', 'i', 'n', 'g', ' ', 'l', 'o', 'o', 'p', '.', 'e', 'x', 'a', 'm', 'p', 'l', 'e', '/', 'g', '0', '0', '8', '4', '1', '/', 'l', 'a', 'w', 's', '.', 'F', 'n', 'E', 'x', 'a', 'c', 't', 'P', 'a', 'r', 'k', 'i', 'n', 'g', 's', 'O', 'f', ' ', 'l', 'o', 'o', 'p', '.', 'e', 'x', 'a', 'm', 'p', 'l', 'e', '/', 'g', '0', '0', '8', '4', '1', '/', 'l', 'a', 'w', 's', '.', 'F', 'n', 'E', 'x', 'a', 'c', 't', 'C', 'l', 'a', 's', 's', 'e', 's', 'O', 'f', ' ', 'l', 'o', 'o', 'p', '.', 'e', 'x', 'a', 'm', 'p', 'l', 'e', '/', 'g', '0', '0', '8', '4', '1', '/', 'l', 'a', 'w', 's', '.', 'F', 'n', 'E', 'x', 'a', 'c', 't', 'R', 'e', 'c', 'u', 'r', 'r', 'e', 'n', 't', 'P', 'i', 'l', 'e', 's', ' ', 'l', 'o', 'o', 'p', '.', 'e', 'x', 'a', 'm', 'p', 'l', 'e', '/', 'g', '0', '0', '8', '4', '1', '/', 'l', 'a', 'w', 's', '.', 'F', 'n', 'E', 'x', 'a', 'c', 't', 'L', 'e', 'v', 'e', 'l', 'C', 'o', 'u', 'n', 't', 's'] := by
  have h : Try.prog.initOrder = String.ofList ['h', 'a', 'r', 'n', 'e', 's', 's', ' ', '7', '7', 'e', '8', '6', '8', '8', '4', '3', '1', '7', '7', '9', '4', '0', '4', 'c', 'd', '0', 'c', 'e', '6', '8', '9', '8', 'd', '7', '5', '4', '5', '0', '2', '9', '1', 'f', 'e', 'f', '0', '4', 'e', '5', '4', '5', 'd', '0', '7', 'e', '5', '1', 'd', '3', '2', 'd', '9', 'b', 'a', '3', '9', 'a', '1', '2', '9', 'e', 'e', ' ', 'c', 'u', 't', ' ', 'a', 't', ' ', 'l', 'o', 'o', 'p', '.', 'e', 'x', 'a', 'm', 'p', 'l', 'e', '/', 'g', '0', '0', '8', '4', '1', '/', 'l', 'a', 'w', 's', '.', 'F', 'n', 'P', 'a', 'r', 'k', 'i', 'n', 'g', ' ', 'l', 'o', 'o', 'p', '.', 'e', 'x', 'a', 'm', 'p', 'l', 'e', '/', 'g', '0', '0', '8', '4', '1', '/', 'l', 'a', 'w', 's', '.', 'F', 'n', 'E', 'x', 'a', 'c', 't', 'P', 'a', 'r', 'k', 'i', 'n', 'g', 's', 'O', 'f', ' ', 'l', 'o', 'o', 'p', '.', 'e', 'x', 'a', 'm', 'p', 'l', 'e', '/', 'g', '0', '0', '8', '4', '1', '/', 'l', 'a', 'w', 's', '.', 'F', 'n', 'E', 'x', 'a', 'c', 't', 'C', 'l', 'a', 's', 's', 'e', 's', 'O', 'f', ' ', 'l', 'o', 'o', 'p', '.', 'e', 'x', 'a', 'm', 'p', 'l', 'e', '/', 'g', '0', '0', '8', '4', '1', '/', 'l', 'a', 'w', 's', '.', 'F', 'n', 'E', 'x', 'a', 'c', 't', 'R', 'e', 'c', 'u', 'r', 'r', 'e', 'n', 't', 'P', 'i', 'l', 'e', 's', ' ', 'l', 'o', 'o', 'p', '.', 'e', 'x', 'a', 'm', 'p', 'l', 'e', '/', 'g', '0', '0', '8', '4', '1', '/', 'l', 'a', 'w', 's', '.', 'F', 'n', 'E', 'x', 'a', 'c', 't', 'L', 'e', 'v', 'e', 'l', 'C', 'o', 'u', 'n', 't', 's'] := by kernel_rfl
  exact (congrArg String.toList h).trans String.toList_ofList
theorem iniW : behindMainWord (wordsSigns Try.prog.initOrder.toList) = [['c', 'u', 't'], ['a', 't'], ['l', 'o', 'o', 'p', '.', 'e', 'x', 'a', 'm', 'p', 'l', 'e', '/', 'g', '0', '0', '8', '4', '1', '/', 'l', 'a', 'w', 's', '.', 'F', 'n', 'P', 'a', 'r', 'k', 'i', 'n', 'g'], ['l', 'o', 'o', 'p', '.', 'e', 'x', 'a', 'm', 'p', 'l', 'e', '/', 'g', '0', '0', '8', '4', '1', '/', 'l', 'a', 'w', 's', '.', 'F', 'n', 'E', 'x', 'a', 'c', 't', 'P', 'a', 'r', 'k', 'i', 'n', 'g', 's', 'O', 'f'], ['l', 'o', 'o', 'p', '.', 'e', 'x', 'a', 'm', 'p', 'l', 'e', '/', 'g', '0', '0', '8', '4', '1', '/', 'l', 'a', 'w', 's', '.', 'F', 'n', 'E', 'x', 'a', 'c', 't', 'C', 'l', 'a', 's', 's', 'e', 's', 'O', 'f'], ['l', 'o', 'o', 'p', '.', 'e', 'x', 'a', 'm', 'p', 'l', 'e', '/', 'g', '0', '0', '8', '4', '1', '/', 'l', 'a', 'w', 's', '.', 'F', 'n', 'E', 'x', 'a', 'c', 't', 'R', 'e', 'c', 'u', 'r', 'r', 'e', 'n', 't', 'P', 'i', 'l', 'e', 's'], ['l', 'o', 'o', 'p', '.', 'e', 'x', 'a', 'm', 'p', 'l', 'e', '/', 'g', '0', '0', '8', '4', '1', '/', 'l', 'a', 'w', 's', '.', 'F', 'n', 'E', 'x', 'a', 'c', 't', 'L', 'e', 'v', 'e', 'l', 'C', 'o', 'u', 'n', 't', 's']] := (congrArg (fun x => behindMainWord (wordsSigns x)) iniS).trans (by kernel_rfl)
theorem mk_cut {P : Program} {r : List (List Char)} (h : behindMainWord (wordsSigns P.initOrder.toList) = ['c', 'u', 't'] :: r) : P.make = some .cut := by
  unfold Program.make
  rw [h]
  rfl
theorem lf_cut {P : Program} {r : List (List Char)} (h : behindMainWord (wordsSigns P.initOrder.toList) = ['c', 'u', 't'] :: r) (k : (stripLifts liftWords (['c', 'u', 't'] :: r)).1 = []) : P.liftsFinal = false := by
  unfold Program.liftsFinal Program.headLifts
  rw [h]
  simp [k]
theorem en_cut {P : Program} {r : List (List Char)} (h : behindMainWord (wordsSigns P.initOrder.toList) = ['c', 'u', 't'] :: r) (k1 : (stripLifts liftWords (['c', 'u', 't'] :: r)).1 = []) (k2 : ((stripLifts liftWords (['c', 'u', 't'] :: r)).2.head? == some "cut".toList) = true) (h1 : P.laysLater = false) (h2 : P.bearsReflect = false) (h3 : P.doorFits [] = true) : P.mayEnter = true := by
  unfold Program.mayEnter
  rw [h]
  simp only [k1, k2, h1, h2, h3]
  simp
theorem make : Try.prog.make = some .cut := mk_cut iniW
theorem lifted : Try.prog.liftsFinal = false := lf_cut iniW (by kernel_rfl)
theorem enter : Try.prog.mayEnter = true := en_cut iniW (by kernel_rfl) (by kernel_rfl) (by kernel_rfl) (by kernel_rfl) (by kernel_rfl)
end Go.Proofs.Ytnbljcgdgblgoaa.Cf
end

