/- A part of the proof of FnAbelian. -/
import Derived.Test.YtgobnfeahffnaaaBFnAbelian2
import Derived.Test.YtgobnfeahffnaaaBFnAbelian0
import Derived.Test.YtgobnfeahffnaaaBFnAbelian1
section
namespace Go.Proofs.Ytgobnfeahffnaaa.P
open Go.RowKit Go.Proofs.YtgobnfeahffnaaaW.PrintWords Go.Proofs.YtgobnfeahffnaaaW.PrintLast Go.Proofs.YtgobnfeahffnaaaW.PrintMore
attribute [local go_sem] max2_int min2_int max_two min_two max_three min_three max_four min_four
set_option linter.unusedVariables false
set_option linter.unusedSimpArgs false
mutual
def laws_FnAbelian.j0 : Nat → List Int → Int → List Int → List Int → List Int → Bool → Int → List (S83) → Option (Bool)
 | 0, _, _, _, _, _, _, _, _ => none
 | k + 1, x0, x4, x5, x6, x7, x66, x106000, x106001 => if x66 = true then (none) else ((spec_MakeNum.f k x0 30).bind fun t120 => ((some (([] : List Int) : List Int)).bind fun y121 => (if y121.length + x5.length < 17592186044416 then (if 0 ≤ x106000 then (if (x106000 : Int).toNat ≤ 35184372088832 then (laws_FnAbelian.l0 k x4 x6 x7 t120 (y121 ++ x5) (List.replicate (x106000 : Int).toNat 0) 0 x106000 x106001) else (none)) else (none)) else (none))))
def laws_FnAbelian.l0 : Nat → Int → List Int → List Int → Int → List Int → List Int → Int → Int → List (S83) → Option (Bool)
 | 0, _, _, _, _, _, _, _, _, _ => none
 | k + 1, x4, x6, x7, x9, x10, x11, x12, x106000, x106001 => if x12 < 5000 then (laws_FnAbelian.l1 k x4 x6 x7 x9 x10 x11 x12 (-1) 0 x106000 x106001) else ((laws_same.f k x6 x10).bind fun t130 => (if t130 = true then ((laws_same.f k x7 x11).bind fun t131 => (some t131)) else (none)))
def laws_FnAbelian.l1 : Nat → Int → List Int → List Int → Int → List Int → List Int → Int → Int → Int → Int → List (S83) → Option (Bool)
 | 0, _, _, _, _, _, _, _, _, _, _, _ => none
 | k + 1, x4, x6, x7, x9, x10, x11, x12, x13, x14, x106000, x106001 => if x14 < x106000 then (if x106000 = 0 then (none) else ((impl_Topple.f k x106000 x106001 x10 x4 (Int.tmod (wrap64 ((wrap64 (x14 + x12)) + x9)) x106000)).bind fun bt132 => (if bt132.2 = true then (laws_FnAbelian.l1 k x4 x6 x7 x9 x10 x11 x12 (Int.tmod (wrap64 ((wrap64 (x14 + x12)) + x9)) x106000) (wrap64 (x14 + 1)) x106000 x106001) else (laws_FnAbelian.l1 k x4 x6 x7 x9 x10 x11 x12 x13 (wrap64 (x14 + 1)) x106000 x106001)))) else (if x13 < 0 then ((laws_same.f k x6 x10).bind fun t136 => (if t136 = true then ((laws_same.f k x7 x11).bind fun t137 => (some t137)) else (none))) else ((impl_Topple.f k x106000 x106001 x10 x4 x13).bind fun bt138 => (if bt138.2 = true then (if 0 ≤ x13 then (if x13 < (x11.length : Int) then (laws_FnAbelian.l0 k x4 x6 x7 x9 bt138.1 (x11.set (x13 : Int).toNat (wrap64 ((rd x11 x13) + 1))) (wrap64 (x12 + 1)) x106000 x106001) else (none)) else (none)) else (none))))
end
def laws_FnAbelian.f (k : Nat) (l0 : List Int) : Option (Bool) := if (l0.length : Int) > 1048576 then (some true) else ((spec_MakeGraph.f k l0).bind fun bt101 => ((spec_MakeNum.f k l0 60).bind fun t106 => (if bt101.1 = 0 then (none) else ((spec_MakePile.f k l0 20 bt101.1 bt101.2 (Int.tmod t106 bt101.1)).bind fun t107 => ((impl_Stabilize.f k bt101.1 bt101.2 t107 (Int.tmod t106 bt101.1)).bind fun bt110 => (if bt110.2.2 = true then (if (bt110.2.1.length : Int) = bt101.1 then ((impl_IsStable.f k bt101.1 bt101.2 bt110.1 (Int.tmod t106 bt101.1)).bind fun t117 => (if t117 = true then ((impl_AvalancheSize.f k bt101.1 bt101.2 t107 (Int.tmod t106 bt101.1)).bind fun t118 => ((impl_DegreeOf.f k bt110.2.1).bind fun t119 => (laws_FnAbelian.j0 k l0 (Int.tmod t106 bt101.1) t107 bt110.1 bt110.2.1 (t118 != t119) bt101.1 bt101.2))) else (laws_FnAbelian.j0 k l0 (Int.tmod t106 bt101.1) t107 bt110.1 bt110.2.1 true bt101.1 bt101.2))) else (laws_FnAbelian.j0 k l0 (Int.tmod t106 bt101.1) t107 bt110.1 bt110.2.1 true bt101.1 bt101.2)) else (laws_FnAbelian.j0 k l0 (Int.tmod t106 bt101.1) t107 bt110.1 bt110.2.1 true bt101.1 bt101.2)))))))
theorem laws_FnAbelian.mono_l : ∀ k, (∀ y0 y1 y2 y3 y4 y5 y6 y7, LeO (laws_FnAbelian.j0 k y0 y1 y2 y3 y4 y5 y6 y7) (laws_FnAbelian.j0 (k + 1) y0 y1 y2 y3 y4 y5 y6 y7)) ∧ (∀ y0 y1 y2 y3 y4 y5 y6 y7 y8, LeO (laws_FnAbelian.l0 k y0 y1 y2 y3 y4 y5 y6 y7 y8) (laws_FnAbelian.l0 (k + 1) y0 y1 y2 y3 y4 y5 y6 y7 y8)) ∧ (∀ y0 y1 y2 y3 y4 y5 y6 y7 y8 y9 y10, LeO (laws_FnAbelian.l1 k y0 y1 y2 y3 y4 y5 y6 y7 y8 y9 y10) (laws_FnAbelian.l1 (k + 1) y0 y1 y2 y3 y4 y5 y6 y7 y8 y9 y10))
 | 0 => ⟨fun _ _ _ _ _ _ _ _ r h => by simp [laws_FnAbelian.j0] at h, fun _ _ _ _ _ _ _ _ _ r h => by simp [laws_FnAbelian.l0] at h, fun _ _ _ _ _ _ _ _ _ _ _ r h => by simp [laws_FnAbelian.l1] at h⟩
 | k + 1 => by
  obtain ⟨ih0, ih1, ih2⟩ := laws_FnAbelian.mono_l k
  refine ⟨?_, ?_, ?_⟩
  ·intro y0 y1 y2 y3 y4 y5 y6 y7
   unfold laws_FnAbelian.j0
   exact zm2
  ·intro y0 y1 y2 y3 y4 y5 y6 y7 y8
   unfold laws_FnAbelian.l0
   exact zm2
  ·intro y0 y1 y2 y3 y4 y5 y6 y7 y8 y9 y10
   unfold laws_FnAbelian.l1
   exact zm2
theorem laws_FnAbelian.mono : ∀ a0 k, LeO (laws_FnAbelian.f k a0) (laws_FnAbelian.f (k + 1) a0) := by
 intro a0 k; obtain ⟨ih0, ih1, ih2⟩ := laws_FnAbelian.mono_l k; unfold laws_FnAbelian.f; exact zm2
set_option maxHeartbeats 8000000 in
set_option maxRecDepth 100000 in
theorem laws_FnAbelian.calls (k : Nat) (A0 : Option Addr) (c0 : Nat) (l0 : List Int) (r : Bool) (w : World) (hr0 : Kd.C (Kd.int .u8) w A0 l0.length l0) (hc0 : l0.length ≤ c0) (h : laws_FnAbelian.f k l0 = some r) :
  Calls Try.prog 4 #[.slice A0 l0.length c0] w fun e w' => e = .returned (.bool r) ∧ Below w.heap.size w w' := by
 have hu25 := Try.underlying25; have HR0 := Aside0.mk hr0; have HC0 := Aside0.mk hc0; clear hr0 hc0; have HB := Aside0.mk (Below.refl w.heap.size w); have H : (if (l0.length : Int) > 1048576 then (some true) else ((spec_MakeGraph.f k l0).bind fun bt101 => ((spec_MakeNum.f k l0 60).bind fun t106 => (if bt101.1 = 0 then (none) else ((spec_MakePile.f k l0 20 bt101.1 bt101.2 (Int.tmod t106 bt101.1)).bind fun t107 => ((impl_Stabilize.f k bt101.1 bt101.2 t107 (Int.tmod t106 bt101.1)).bind fun bt110 => (if bt110.2.2 = true then (if (bt110.2.1.length : Int) = bt101.1 then ((impl_IsStable.f k bt101.1 bt101.2 bt110.1 (Int.tmod t106 bt101.1)).bind fun t117 => (if t117 = true then ((impl_AvalancheSize.f k bt101.1 bt101.2 t107 (Int.tmod t106 bt101.1)).bind fun t118 => ((impl_DegreeOf.f k bt110.2.1).bind fun t119 => (laws_FnAbelian.j0 k l0 (Int.tmod t106 bt101.1) t107 bt110.1 bt110.2.1 (t118 != t119) bt101.1 bt101.2))) else (laws_FnAbelian.j0 k l0 (Int.tmod t106 bt101.1) t107 bt110.1 bt110.2.1 true bt101.1 bt101.2))) else (laws_FnAbelian.j0 k l0 (Int.tmod t106 bt101.1) t107 bt110.1 bt110.2.1 true bt101.1 bt101.2)) else (laws_FnAbelian.j0 k l0 (Int.tmod t106 bt101.1) t107 bt110.1 bt110.2.1 true bt101.1 bt101.2)))))))) = some r := h; clear h; by_cases c2 : (l0.length : Int) > 1048576
 ·rw [if_pos c2] at H; have c2b0 : decide (1048576 < (l0.length : Int)) = true := decide_eq_true c2; have c2b1 : decide (1048576 < l0.length) = true := decide_eq_true (by omega); clear c2; obtain rfl := Option.some.inj H; go_enter Try.func4, Try.ntmps4; go_wp2; go_ret; exact ⟨zz11, zz2⟩
 rw [if_neg c2] at H; have c2b0 : decide (1048576 < (l0.length : Int)) = false := decide_eq_false c2; have c2b1 : decide (1048576 < l0.length) = false := decide_eq_false (by omega); clear c2; replace H := Option.bind_eq_some_iff.mp H; obtain ⟨⟨t101, t102⟩, A30, H⟩ := H; dsimp only at H; have A3 := Aside0.mk A30; clear A30; replace H := Option.bind_eq_some_iff.mp H; obtain ⟨t106, A40, H⟩ := H; (try dsimp only at H); have A4 := Aside0.mk A40; clear A40; by_cases c5 : t101 = 0
 ·rw [if_pos c5] at H; exact absurd H (by simp)
 rw [if_neg c5] at H; have c5b0 : (t101 == 0) = false := beq_eq_false_iff_ne.mpr c5; have c5b1 : (t101 != 0) = true := bne_iff_ne.mpr c5; replace H := Option.bind_eq_some_iff.mp H; obtain ⟨t107, A60, H⟩ := H; (try dsimp only at H); have A6 := Aside0.mk A60; clear A60; replace H := Option.bind_eq_some_iff.mp H; obtain ⟨⟨t110, t113, t116⟩, A70, H⟩ := H; dsimp only at H; have A7 := Aside0.mk A70; clear A70; have HC8 := Aside0.mk H; clear H; go_enter Try.func4, Try.ntmps4; (try go_wp2_with (first | ((with_reducible refine gate_callee (f := 9) rfl ?_); refine goesL_ (some 24) rfl rfl Try.func9 (by kernel_rfl) rfl #[.slice A0 l0.length c0] rfl zz3 ?_; (with_reducible refine (spec_MakeGraph.calls k _ _ l0 t101 t102 _ ?side1 ?side2 A3.out).mono ?_); (case side1 => repeat (first | exact HR0.out | (with_reducible refine Kd.C_alloc ?_ _) | (with_reducible refine Kd.C_drewN ?_ _) | (with_reducible refine Kd.C_drew ?_))); (case side2 => exact HC0.out); rintro e w9 ⟨v103, rfl, ho0, hb⟩; refine ⟨_, rfl, ?_⟩; have n_ := zA2 (Kd.R_lower ho0 (below_size zz2)) (below_step zz2 hb); clear HB; obtain ⟨HO104, HB⟩ := n_; clear ho0 hb) | ((with_reducible refine gate_dst (N := 3) rfl ?_); (try (refine gate_guard (by rfl) ?_; dsimp only)); refine box_event ?hg (N := 3) ?hd (cs := #[.int .i64 0, .slice none 0 0]) (t := 25) ?hr ?_; (case hd => rfl); (case hg => rfl); (case hr => exact zz22); intro gb105 hg w10 hbox hb; have n_ := zA5 (Kd.R_below zz60 hb) (below_step zz2 hb) hbox (zz25 : w.heap.size ≤ gb105) (zz25 : w.heap.size ≤ gb105); clear HO104 HB; obtain ⟨HO104, HB, BK105, GW105, GE105⟩ := n_; clear hb hbox hg; have hcz11_0 := zC20 BK105; have hcz11_1 := zC21 BK105; have hfz11_0 := blk_frozen BK105.out 0; have hfz11_1 := blk_frozen BK105.out 1; obtain ⟨Ao12, co12, eo12⟩ := Kd.R_slice HO104.out; subst eo12))); have n0_ : Aside0 (Kd.R k83 83 ((w10.setCell ⟨gb105, 0, none⟩ (.int .i64 t101)).setCell ⟨gb105, 1, none⟩ (.slice Ao12 t102.length co12)) w.heap.size (fun _ => True) (.slice Ao12 t102.length co12) t102) := ⟨by (with_reducible repeat (first | apply Kd.R_alloc | apply Kd.R_drewN | apply Kd.R_drew)); exact Kd.R_mono (Kd.R_far (p := ⟨gb105, 1, none⟩) (Kd.R_far (p := ⟨gb105, 0, none⟩) (Kd.R_types HO104.out BK105.out (by decide)) (fun _ hk => hk.2) (.int .i64 t101)) (fun _ hk => hk.2) (.slice Ao12 t102.length co12)) (fun _ hk => trivial)⟩; have n1_ : Aside0 (((w10.setCell ⟨gb105, 0, none⟩ (.int .i64 t101)).setCell ⟨gb105, 1, none⟩ (.slice Ao12 t102.length co12)).heap[gb105]? = some (.cells #[.int .i64 t101, .slice Ao12 t102.length co12] 25 (0, 0))) := ⟨by (with_reducible repeat (first | refine blk_drewN ?_ _ | refine blk_drew ?_ | refine blk_alloc ?_ _)); refine blk_put (cs := #[.int .i64 t101, .slice none 0 0]) ?_ 1 _ rfl; (with_reducible repeat (first | refine blk_drewN ?_ _ | refine blk_drew ?_ | refine blk_alloc ?_ _)); refine blk_put (cs := #[.int .i64 0, .slice none 0 0]) ?_ 0 _ rfl; (with_reducible repeat (first | refine blk_drewN ?_ _ | refine blk_drew ?_ | refine blk_alloc ?_ _)); exact BK105.out⟩; have n2_ : Aside0 (Below w.heap.size w ((w10.setCell ⟨gb105, 0, none⟩ (.int .i64 t101)).setCell ⟨gb105, 1, none⟩ (.slice Ao12 t102.length co12))) := ⟨zz19⟩; (try clear HO104); (try clear BK105); (try clear HB); generalize ((w10.setCell ⟨gb105, 0, none⟩ (.int .i64 t101)).setCell ⟨gb105, 1, none⟩ (.slice Ao12 t102.length co12)) = w13 at n0_ n1_ n2_ ⊢; have HO104 := n0_; have BK105 := n1_; have HB := n2_; clear n0_ n1_ n2_; have n_ := zA3 (Kd.R_drew HO104.out) (blk_drew BK105.out) (below_drew1 HB.out); clear HO104 BK105 HB; obtain ⟨HO104, BK105, HB⟩ := n_; refine start_ (n := 6) (S := fun w' => w'.cell? ⟨gb105, 0, none⟩ = some (.int .i64 t101) ∧ w'.cell? ⟨gb105, 1, none⟩ = some (.slice Ao12 t102.length co12)) (ds := []) (zM 6 0) (by kernel_rfl) rfl rfl ⟨(blk_cell BK105.out 0).trans rfl, (blk_cell BK105.out 1).trans rfl⟩ (fun hHeld => ?_); generalize w13.drew = w14 at HO104 BK105 HB hHeld ⊢; refine pure_ (i := 0) (N := some 25) (v := ?_) (a' := ?_) (zM 6 1) rfl rfl (by kernel_rfl) (fun _ _ _ h => h) (Or.inl ⟨by rfl, ?_⟩) ?_ ?_; rotate_left
 ·intro w'; exact zzT
 rotate_left
 ·exact zzS
 refine pure_ (i := 2) (N := some 27) (v := ?_) (a' := ?_) (zM 6 5) rfl rfl (by kernel_rfl) (fun _ _ _ h => h) (Or.inl ⟨by rfl, ?_⟩) ?_ ?_; rotate_left
 ·intro w'; exact zzT
 rotate_left
 ·exact zzS
 refine take_ (i := 3) (N := some 28) (v := ?_) (a' := ?_) (zM 6 13) rfl rfl (by kernel_rfl) (fun _ _ _ h => h) (Or.inl ⟨by rfl, ?_⟩) hHeld ?_ ?_; rotate_left
 ·rintro w' ⟨s0, s1⟩; exact zzT
 rotate_left
 ·exact zzS
 refine one_ (i := 1) (N := some 26) (zM 6 15) rfl rfl (by kernel_rfl) (by decide) (fun K hK => ?_); refine goes_ Try.func10 (by kernel_rfl) rfl #[.slice A0 l0.length c0, .int .i64 60] (by rfl) rfl rfl zz3 ?_; (with_reducible refine (spec_MakeNum.calls k _ _ l0 60 t106 _ ?side1 ?side2 A4.out).mono ?_); (case side1 => repeat (first | exact (Kd.C_below HR0.out HB.out) | (with_reducible refine Kd.C_alloc ?_ _) | (with_reducible refine Kd.C_drewN ?_ _) | (with_reducible refine Kd.C_drew ?_))); (case side2 => exact HC0.out); rintro e w15 ⟨rfl, hb⟩; refine ⟨_, rfl, ?_⟩; have n_ := zA3 (Kd.R_below zz60 hb) (blk_below (g := gb105) (o := .cells #[.int .i64 t101, .slice Ao12 t102.length co12] 25 (0, 0)) zz41 hb) (below_step zz19 hb); clear HO104 BK105 HB; obtain ⟨HO104, BK105, HB⟩ := n_; clear hb; refine hK.out _ _ ⟨(blk_cell BK105.out 0).trans rfl, (blk_cell BK105.out 1).trans rfl⟩ (fun hHeld => ?_); clear hK K; refine norm_ (a' := ?_) ?_ ?_; rotate_left
 ·show Act.put _ (some 26) _ = _; exact zzS
 refine pure_ (i := 4) (N := some 29) (v := ?_) (a' := ?_) (zM 6 31) rfl rfl (by kernel_rfl) (fun _ _ _ h => h) (Or.inl ⟨by rfl, ?_⟩) ?_ ?_; rotate_left
 ·intro w'; exact zzT
 rotate_left
 ·exact zzS
 refine pure_ (i := 5) (N := some 4) (v := ?_) (a' := ?_) (zM 6 63) rfl rfl (by kernel_rfl) (fun _ _ _ h => h) (Or.inl ⟨by rfl, ?_⟩) ?_ ?_; rotate_left
 ·intro w'; exact zzT
 rotate_left
 ·exact zzS
 refine done_ (by kernel_rfl) ?_; have hcz16_0 := zC20 BK105; have hcz16_1 := zC21 BK105; have hfz16_0 := blk_frozen BK105.out 0; have hfz16_1 := blk_frozen BK105.out 1; (go_upto_region 7 with (first | ((with_reducible refine gate_callee (f := 12) rfl ?_); refine goesL_ (some 33) rfl rfl Try.func12 (by kernel_rfl) rfl #[.slice A0 l0.length c0, .int .i64 20, .agg #[.int .i64 t101, .slice Ao12 t102.length co12], .int .i64 (Int.tmod t106 t101)] rfl zz3 ?_; (with_reducible refine (spec_MakePile.calls k _ _ l0 20 t101 _ _ t102 (Int.tmod t106 t101) t107 _ ?side1 ?side2 ?side3 ?side4 A6.out).mono ?_); (case side1 => repeat (first | exact (Kd.C_below HR0.out HB.out) | (with_reducible refine Kd.C_alloc ?_ _) | (with_reducible refine Kd.C_drewN ?_ _) | (with_reducible refine Kd.C_drew ?_))); (case side2 => exact HC0.out); (case side3 => exact zz67); (case side4 => exact (Kd.R_reads' HO104.out).2.1); rintro e w17 ⟨v108, rfl, ho0, hb⟩; refine ⟨_, rfl, ?_⟩; have n_ := zA4 (Kd.R_below zz60 hb) (Kd.R_lower ho0 (below_size zz19)) (blk_below (g := gb105) (o := .cells #[.int .i64 t101, .slice Ao12 t102.length co12] 25 (0, 0)) zz41 hb) (below_step zz19 hb); clear HO104 BK105 HB; obtain ⟨HO104, HO109, BK105, HB⟩ := n_; clear ho0 hb; have hcz18_0 := zC20 BK105; have hcz18_1 := zC21 BK105; have hfz18_0 := blk_frozen BK105.out 0; have hfz18_1 := blk_frozen BK105.out 1; obtain ⟨Ao19, co19, eo19⟩ := Kd.R_slice HO109.out; subst eo19) | ((with_reducible refine gate_callee (f := 18) rfl ?_); refine goesL_ (some 38) rfl rfl Try.func18 (by kernel_rfl) rfl #[.agg #[.int .i64 t101, .slice Ao12 t102.length co12], .slice Ao19 t107.length co19, .int .i64 (Int.tmod t106 t101)] rfl zz3 ?_; (with_reducible refine (impl_Stabilize.calls k t101 _ _ t102 _ _ t107 (Int.tmod t106 t101) t110 t113 t116 _ ?side1 ?side2 ?side3 ?side4 A7.out).mono ?_); (case side1 => exact zz67); (case side2 => exact (Kd.R_reads' HO104.out).2.1); (case side3 => repeat (first | exact (Kd.R_reads' HO109.out).2.2 | (with_reducible refine Kd.C_alloc ?_ _) | (with_reducible refine Kd.C_drewN ?_ _) | (with_reducible refine Kd.C_drew ?_))); (case side4 => exact (Kd.R_reads' HO109.out).2.1); rintro e w20 ⟨v111, v114, rfl, ho0, ho1, hb⟩; refine ⟨_, rfl, ?_⟩; have n_ := zA6 (Kd.R_below zz60 hb) (Kd.R_mono (Kd.R_told (Kd.R_told (Kd.R_old zz95 hb) (Kd.R_base ho0)) (Kd.R_base ho1)) (fun _ h_ => h_.1)) (Kd.R_lower (Kd.R_new' ho0 (Kd.R_lt zz95)) (below_size zz19)) (Kd.R_lower (Kd.R_new' ho1 (Kd.R_lt zz95)) (below_size zz19)) (blk_below (g := gb105) (o := .cells #[.int .i64 t101, .slice Ao12 t102.length co12] 25 (0, 0)) zz41 hb) (below_step zz19 hb); clear HO104 HO109 BK105 HB; obtain ⟨HO104, HO109, HO112, HO115, BK105, HB⟩ := n_; clear ho0 ho1 hb))); (try simp only [Act.put, List.setIfInBounds_toArray, List.set_cons_zero, List.set_cons_succ]); go_cut [66] (fun v66 wc => ∃ (kq : Nat) (x66_7 : Bool), v66 = .bool x66_7 ∧ Aside0 (laws_FnAbelian.j0 kq l0 (Int.tmod t106 t101) t107 t110 t113 x66_7 t101 t102 = some r) ∧ Aside0 (kq ≤ k) ∧ Aside0 (Kd.R (Kd.int .i64) 3 wc w.heap.size (fun k_ => some k_ ≠ (v111 : Value).ownBlock ∧ some k_ ≠ (v114 : Value).ownBlock) (.slice Ao19 t107.length co19) t107) ∧ Aside0 (Kd.R (Kd.int .i64) 3 wc w.heap.size (fun k_ => some k_ ≠ ((.slice Ao19 t107.length co19) : Value).ownBlock ∧ some k_ ≠ (v114 : Value).ownBlock) v111 t110) ∧ Aside0 (Kd.R (Kd.int .i64) 3 wc w.heap.size (fun k_ => some k_ ≠ ((.slice Ao19 t107.length co19) : Value).ownBlock ∧ some k_ ≠ (v111 : Value).ownBlock) v114 t113) ∧ Aside0 (Kd.R k83 83 wc w.heap.size (fun _ => True) (.slice Ao12 t102.length co12) t102) ∧ Aside0 (wc.heap[gb105]? = some (.cells #[.int .i64 t101, (.slice Ao12 t102.length co12)] 25 (0, 0))) ∧ Aside0 (Below w.heap.size w wc))
 case first =>
  have H := HC8.out; clear HC8; by_cases c21 : t116 = true; rotate_left
  ·replace c21 := Bool.eq_false_iff.mpr c21; subst c21; rw [if_neg (show ¬ (false = true) by decide)] at H; have H' := Aside0.mk H; clear H; go_wp2; (go_meet); case rel => exact ⟨_, (true), zz10, H', ⟨by first | omega | exact Nat.le_refl _⟩, ⟨zz110⟩, ⟨zz111⟩, ⟨zz112⟩, ⟨zz60⟩, ⟨zz41⟩, ⟨zz19⟩⟩
  subst c21; rw [if_pos rfl] at H; by_cases c22 : (t113.length : Int) = t101; rotate_left
  ·rw [if_neg c22] at H; have c22b0 : ((t113.length : Int) == t101) = false := beq_eq_false_iff_ne.mpr c22; have c22b1 : ((t113.length : Int) != t101) = true := bne_iff_ne.mpr c22; (first | rw [c22b0] | (simp only [i64_w, i32_w]; rw [c22b0]) | skip); have H' := Aside0.mk H; clear H; obtain ⟨Ao37, co37, eo37⟩ := Kd.R_slice HO115.out; subst eo37; have hcz38_0 := zC20 BK105; have hcz38_1 := zC21 BK105; have hfz38_0 := blk_frozen BK105.out 0; have hfz38_1 := blk_frozen BK105.out 1; go_wp2; (go_meet); case rel => exact ⟨_, (true), zz10, H', ⟨by first | omega | exact Nat.le_refl _⟩, ⟨zz110⟩, ⟨zz111⟩, ⟨zz112⟩, ⟨zz60⟩, ⟨zz41⟩, ⟨zz19⟩⟩
  rw [if_pos c22] at H; have c22b0 : ((t113.length : Int) == t101) = true := beq_iff_eq.mpr c22; have c22b1 : ((t113.length : Int) != t101) = false := bne_eq_false_iff_eq.mpr c22; clear c22; (first | rw [c22b0] | (simp only [i64_w, i32_w]; rw [c22b0]) | skip); replace H := Option.bind_eq_some_iff.mp H; obtain ⟨t117, A230, H⟩ := H; (try dsimp only at H); have A23 := Aside0.mk A230; clear A230; by_cases c24 : t117 = true; rotate_left
  ·replace c24 := Bool.eq_false_iff.mpr c24; subst c24; rw [if_neg (show ¬ (false = true) by decide)] at H; have H' := Aside0.mk H; clear H; obtain ⟨Ao33, co33, eo33⟩ := Kd.R_slice HO115.out; subst eo33; have hcz34_0 := zC20 BK105; have hcz34_1 := zC21 BK105; have hfz34_0 := blk_frozen BK105.out 0; have hfz34_1 := blk_frozen BK105.out 1; obtain ⟨Ao35, co35, eo35⟩ := Kd.R_slice HO112.out; subst eo35; (go_wp2_with (first | (go_at_call 19; (with_reducible refine (impl_IsStable.calls k t101 _ _ t102 _ _ t110 (Int.tmod t106 t101) false _ ?side1 ?side2 ?side3 ?side4 A23.out).mono ?_); (case side1 => exact zz67); (case side2 => exact (Kd.R_reads' HO104.out).2.1); (case side3 => repeat (first | exact (Kd.R_reads' HO112.out).2.2 | (with_reducible refine Kd.C_alloc ?_ _) | (with_reducible refine Kd.C_drewN ?_ _) | (with_reducible refine Kd.C_drew ?_))); (case side4 => exact (Kd.R_reads' HO112.out).2.1); rintro e w36 ⟨rfl, hb⟩; have n_ := zA6 (Kd.R_below zz60 hb) (Kd.R_below zz95 hb) (Kd.R_below (by (with_reducible repeat (first | apply Kd.R_alloc | apply Kd.R_drewN | apply Kd.R_drew)); exact HO112.out) hb) (Kd.R_below (by (with_reducible repeat (first | apply Kd.R_alloc | apply Kd.R_drewN | apply Kd.R_drew)); exact HO115.out) hb) (blk_below (g := gb105) (o := .cells #[.int .i64 t101, .slice Ao12 t102.length co12] 25 (0, 0)) zz41 hb) (below_step zz19 hb); clear HO104 HO109 HO112 HO115 BK105 HB; obtain ⟨HO104, HO109, HO112, HO115, BK105, HB⟩ := n_; (try clear hb); (try clear hb2); (try clear hk); (try clear hi)))); (go_meet); case rel => exact ⟨_, (true), zz10, H', ⟨by first | omega | exact Nat.le_refl _⟩, ⟨zz110⟩, ⟨zz111⟩, ⟨zz112⟩, ⟨zz60⟩, ⟨zz41⟩, ⟨zz19⟩⟩
  subst c24; rw [if_pos rfl] at H; replace H := Option.bind_eq_some_iff.mp H; obtain ⟨t118, A250, H⟩ := H; (try dsimp only at H); have A25 := Aside0.mk A250; clear A250; replace H := Option.bind_eq_some_iff.mp H; obtain ⟨t119, A260, H⟩ := H; (try dsimp only at H); have A26 := Aside0.mk A260; clear A260; have H' := Aside0.mk H; clear H; obtain ⟨Ao27, co27, eo27⟩ := Kd.R_slice HO115.out; subst eo27; have hcz28_0 := zC20 BK105; have hcz28_1 := zC21 BK105; have hfz28_0 := blk_frozen BK105.out 0; have hfz28_1 := blk_frozen BK105.out 1; obtain ⟨Ao29, co29, eo29⟩ := Kd.R_slice HO112.out; subst eo29; (go_wp2_with (first | (go_at_call 19; (with_reducible refine (impl_IsStable.calls k t101 _ _ t102 _ _ t110 (Int.tmod t106 t101) true _ ?side1 ?side2 ?side3 ?side4 A23.out).mono ?_); (case side1 => exact zz67); (case side2 => exact (Kd.R_reads' HO104.out).2.1); (case side3 => repeat (first | exact (Kd.R_reads' HO112.out).2.2 | (with_reducible refine Kd.C_alloc ?_ _) | (with_reducible refine Kd.C_drewN ?_ _) | (with_reducible refine Kd.C_drew ?_))); (case side4 => exact (Kd.R_reads' HO112.out).2.1); rintro e w30 ⟨rfl, hb⟩; have n_ := zA6 (Kd.R_below zz60 hb) (Kd.R_below zz95 hb) (Kd.R_below (by (with_reducible repeat (first | apply Kd.R_alloc | apply Kd.R_drewN | apply Kd.R_drew)); exact HO112.out) hb) (Kd.R_below (by (with_reducible repeat (first | apply Kd.R_alloc | apply Kd.R_drewN | apply Kd.R_drew)); exact HO115.out) hb) (blk_below (g := gb105) (o := .cells #[.int .i64 t101, .slice Ao12 t102.length co12] 25 (0, 0)) zz41 hb) (below_step zz19 hb); clear HO104 HO109 HO112 HO115 BK105 HB; obtain ⟨HO104, HO109, HO112, HO115, BK105, HB⟩ := n_; (try clear hb); (try clear hb2); (try clear hk); (try clear hi); have hcz31_0 := zC20 BK105; have hcz31_1 := zC21 BK105; have hfz31_0 := blk_frozen BK105.out 0; have hfz31_1 := blk_frozen BK105.out 1) | (go_at_call 20; (with_reducible refine (impl_AvalancheSize.calls k t101 _ _ t102 _ _ t107 (Int.tmod t106 t101) t118 _ ?side1 ?side2 ?side3 ?side4 A25.out).mono ?_); (case side1 => exact zz67); (case side2 => exact (Kd.R_reads' HO104.out).2.1); (case side3 => repeat (first | exact (Kd.R_reads' HO109.out).2.2 | (with_reducible refine Kd.C_alloc ?_ _) | (with_reducible refine Kd.C_drewN ?_ _) | (with_reducible refine Kd.C_drew ?_))); (case side4 => exact (Kd.R_reads' HO109.out).2.1); rintro e w32 ⟨rfl, hb⟩; have n_ := zA6 (Kd.R_below zz60 hb) (Kd.R_below zz95 hb) (Kd.R_below (by (with_reducible repeat (first | apply Kd.R_alloc | apply Kd.R_drewN | apply Kd.R_drew)); exact HO112.out) hb) (Kd.R_below (by (with_reducible repeat (first | apply Kd.R_alloc | apply Kd.R_drewN | apply Kd.R_drew)); exact HO115.out) hb) (blk_below (g := gb105) (o := .cells #[.int .i64 t101, .slice Ao12 t102.length co12] 25 (0, 0)) zz41 hb) (below_step zz19 hb); clear HO104 HO109 HO112 HO115 BK105 HB; obtain ⟨HO104, HO109, HO112, HO115, BK105, HB⟩ := n_; (try clear hb); (try clear hb2); (try clear hk); (try clear hi)) | (go_at_call 21; (with_reducible refine (impl_DegreeOf.calls k _ _ t113 t119 _ ?side1 ?side2 A26.out).mono ?_); (case side1 => repeat (first | exact (Kd.R_reads' HO115.out).2.2 | (with_reducible refine Kd.C_alloc ?_ _) | (with_reducible refine Kd.C_drewN ?_ _) | (with_reducible refine Kd.C_drew ?_))); (case side2 => exact (Kd.R_reads' HO115.out).2.1); rintro e w' ⟨rfl, ⟨nd, rfl⟩⟩))); (go_meet); case rel => exact ⟨_, ((t118 != t119)), zz10, H', ⟨by first | omega | exact Nat.le_refl _⟩, ⟨zz110⟩, ⟨zz111⟩, ⟨zz112⟩, ⟨zz60⟩, ⟨zz41⟩, ⟨zz19⟩⟩
 case rest =>
  clear HC8; (try clear c1); (try clear c2); (try clear c2b0); (try clear c2b1); (try clear p2); (try clear c4); (try clear c5); (try clear c5b0); (try clear c5b1); (try clear c9); (try clear c10); (try clear c12); (try clear c18); (try clear c21); (try clear c22); (try clear c22b0); (try clear c22b1); (try clear c24); (try clear hcz11_0); (try clear hcz11_1); (try clear hcz16_0); (try clear hcz16_1); (try clear hcz18_0); (try clear hcz18_1); (try clear hcz28_0); (try clear hcz28_1); (try clear hcz31_0); (try clear hcz31_1); (try clear hcz34_0); (try clear hcz34_1); (try clear hcz38_0); (try clear hcz38_1); (try clear hfz11_0); (try clear hfz11_1); (try clear hfz16_0); (try clear hfz16_1); (try clear hfz18_0); (try clear hfz18_1); (try clear hfz28_0); (try clear hfz28_1); (try clear hfz31_0); (try clear hfz31_1); (try clear hfz34_0); (try clear hfz34_1); (try clear hfz38_0); (try clear hfz38_1); obtain ⟨kq, x66_7, rfl, HA, HJ7, HO_5, HO_6, HO_7, HO_106001, BK105, HB⟩ := hcut
  cases kq with
  | zero => exact absurd HA.out (by simp [laws_FnAbelian.j0])
  | succ kj7 =>
   have H := HA.out; clear HA; simp only [laws_FnAbelian.j0] at H; by_cases c39 : x66_7 = true
   ·subst c39; rw [if_pos rfl] at H; exact absurd H (by simp)
   replace c39 := Bool.eq_false_iff.mpr c39; subst c39; rw [if_neg (show ¬ (false = true) by decide)] at H; replace H := Option.bind_eq_some_iff.mp H; obtain ⟨t120, A400, H⟩ := H; (try dsimp only at H); have A40 := Aside0.mk A400; clear A400; obtain ⟨y121, hy_⟩ : ∃ y_ : List Int, y_ = (([] : List Int)) := ⟨_, rfl⟩; (replace H : (if y121.length + t107.length < 17592186044416 then (if 0 ≤ t101 then (if (t101 : Int).toNat ≤ 35184372088832 then (laws_FnAbelian.l0 kj7 (Int.tmod t106 t101) t110 t113 t120 (y121 ++ t107) (List.replicate (t101 : Int).toNat 0) 0 t101 t102) else (none)) else (none)) else (none)) = some r := zzY); have Ny121 := Aside0.mk hy_; clear hy_; by_cases c41 : y121.length + t107.length < 17592186044416; rotate_left
   ·rw [if_neg c41] at H; exact absurd H (by simp)
   rw [if_pos c41] at H; have LMc41 := Aside0.mk c41; clear c41; obtain ⟨y124, hy_⟩ : ∃ y_ : List Int, y_ = (y121 ++ t107) := ⟨_, rfl⟩; (replace H : (if 0 ≤ t101 then (if (t101 : Int).toNat ≤ 35184372088832 then (laws_FnAbelian.l0 kj7 (Int.tmod t106 t101) t110 t113 t120 y124 (List.replicate (t101 : Int).toNat 0) 0 t101 t102) else (none)) else (none)) = some r := zzY); have Ny124 := Aside0.mk hy_; clear hy_; by_cases c42 : 0 ≤ t101; rotate_left
   ·rw [if_neg c42] at H; exact absurd H (by simp)
   rw [if_pos c42] at H; have c42b0 := eq_true c42; have c42b1 : decide (0 ≤ t101) = true := decide_eq_true c42; clear c42; by_cases c43 : (t101 : Int).toNat ≤ 35184372088832; rotate_left
   ·rw [if_neg c43] at H; exact absurd H (by simp)
   rw [if_pos c43] at H; have c43b0 := eq_true c43; have c43b1 : decide ((t101 : Int).toNat ≤ 35184372088832) = true := decide_eq_true c43; clear c43; obtain ⟨y127, hy_⟩ : ∃ y_ : List Int, y_ = (List.replicate (t101 : Int).toNat 0) := ⟨_, rfl⟩; (replace H : (laws_FnAbelian.l0 kj7 (Int.tmod t106 t101) t110 t113 t120 y124 y127 0 t101 t102) = some r := zzY); have Ny127 := Aside0.mk hy_; clear hy_; have H' := Aside0.mk H; clear H; (go_wp2_with (first | ((with_reducible refine gate_callee (f := 10) rfl ?_); refine goesL_ (some 68) rfl rfl Try.func10 (by kernel_rfl) rfl #[.slice A0 l0.length c0, .int .i64 30] rfl zz3 ?_; (with_reducible refine (spec_MakeNum.calls kj7 _ _ l0 30 t120 _ ?side1 ?side2 A40.out).mono ?_); (case side1 => repeat (first | exact (Kd.C_below HR0.out HB.out) | (with_reducible refine Kd.C_alloc ?_ _) | (with_reducible refine Kd.C_drewN ?_ _) | (with_reducible refine Kd.C_drew ?_))); (case side2 => exact HC0.out); rintro e w44 ⟨rfl, hb⟩; refine ⟨_, rfl, ?_⟩; have n_ := zA6 (Kd.R_below zz86 hb) (Kd.R_below zz49 hb) (Kd.R_below zz46 hb) (Kd.R_below zz73 hb) (blk_below (g := gb105) (o := .cells #[.int .i64 t101, .slice Ao12 t102.length co12] 25 (0, 0)) zz41 hb) (below_step zz19 hb); clear HO_5 HO_6 HO_7 HO_106001 BK105 HB; obtain ⟨HO_5, HO_6, HO_7, HO_106001, BK105, HB⟩ := n_; clear hb) | ((with_reducible refine gate_dst (N := 69) rfl ?_); (try (refine gate_guard (by rfl) ?_; dsimp only)); refine Kd.R_lit (Kd.int .i64) _ 3 ?hg (N := 69) ?hd (xs := ([] : List Int)) (inner := []) (ok := fun _ => True) (okp := fun _ => True) ?hr ?hp (fun _ hk => hk) trivial (Below.refl _ _) (Nat.le_refl _) (by simp) ?_; (case hd => rfl); (case hg => rfl); (case hr => exact zz22); (case hp => exact (Reps.none _ _)); intro v122 w45 ho46 hb hg_ hnew_; clear hg_ hnew_; (first | rw [← Ny121.out] at ho46 | (simp only [Int.reduceToNat] at ho46; rw [← Ny121.out] at ho46)); have n_ := zA7 (Kd.R_elder' zz86 (Kd.R_base ho46) hb) (Kd.R_elder' zz49 (Kd.R_base ho46) hb) (Kd.R_elder' zz46 (Kd.R_base ho46) hb) (Kd.R_below zz73 hb) (Kd.R_lower (Kd.R_new' (Kd.R_new' (Kd.R_new' ho46 (Kd.R_lt zz86)) (Kd.R_lt zz49)) (Kd.R_lt zz46)) (below_size zz19)) (blk_below (g := gb105) (o := .cells #[.int .i64 t101, .slice Ao12 t102.length co12] 25 (0, 0)) zz41 hb) (below_step zz19 hb); clear HO_5 HO_6 HO_7 HO_106001 BK105 HB; obtain ⟨HO_5, HO_6, HO_7, HO_106001, HO123, BK105, HB⟩ := n_; clear hb ho46) | ((with_reducible refine gate_builtin (b := .append) (xs := #[.tmp 69, .tmp 70]) rfl ?_); (try (refine gate_guard (by rfl) ?_; dsimp only)); at_builtin; refine Kd.R_append_rows (Kd.int .i64) (w0 := w) w.heap.size rfl (.tmp 69) (.tmp 70) 28 3 (.int .i64 0) 8 rfl Try.underlying28 info3 rfl (by decide) (by omega) v122 y121 t107 _ _ _ (fun k_ => some k_ ≠ (.slice Ao19 t107.length co19 : Value).ownBlock ∧ some k_ ≠ (v111 : Value).ownBlock ∧ some k_ ≠ (v114 : Value).ownBlock) (fun _ => False) rfl rfl ?aO ?aR (fun _ _ h => h) (fun _ h => h.elim) ?aF ?aB ?aS ?aL ?_; (case aR => repeat (first | exact (Kd.R_reads' HO_5.out).2.2 | (with_reducible refine Kd.C_alloc ?_ _) | (with_reducible refine Kd.C_drewN ?_ _) | (with_reducible refine Kd.C_drew ?_))); (case aB => exact zz19); (case aF => exact (fun k_ hk => ⟨Kd.fresh' (Kd.R_lt zz86) k_ hk, Kd.fresh' (Kd.R_lt zz49) k_ hk, Kd.fresh' (Kd.R_lt zz46) k_ hk⟩)); (case aO => exact (by (with_reducible repeat (first | apply Kd.R_alloc | apply Kd.R_drewN | apply Kd.R_drew)); exact Kd.R_mono HO123.out (fun _ hk => ⟨hk.1.1.2, ⟨hk.1.2, hk.2⟩⟩))); (case aS => exact (below_size zz19)); (case aL => have := LMc41.out; omega); intro v125 w47 ho hb hg hat; rw [← Ny124.out] at ho; have n_ := zA7 (Kd.R_after (ok := (fun k_ => some k_ ≠ (v111 : Value).ownBlock ∧ some k_ ≠ (v114 : Value).ownBlock)) zz86 hg hat) (Kd.R_after (ok := (fun k_ => some k_ ≠ (.slice Ao19 t107.length co19 : Value).ownBlock ∧ some k_ ≠ (v114 : Value).ownBlock)) zz49 hg hat) (Kd.R_after (ok := (fun k_ => some k_ ≠ (.slice Ao19 t107.length co19 : Value).ownBlock ∧ some k_ ≠ (v111 : Value).ownBlock)) zz46 hg hat) (Kd.R_over' zz73 (Kd.R_typed (by (with_reducible repeat (first | apply Kd.R_alloc | apply Kd.R_drewN | apply Kd.R_drew)); exact HO123.out)) (by decide) hg) (blk_grown (g := gb105) (o := .cells #[.int .i64 t101, .slice Ao12 t102.length co12] 25 (0, 0)) zz41 hg (Kd.R_ne HO123.out BK105.out (by decide))) hb ho; clear HO_5 HO_6 HO_7 HO_106001 BK105 HB HO123; obtain ⟨HO_5, HO_6, HO_7, HO_106001, BK105, HB, HO126⟩ := n_; clear ho hb hg hat; have hcz48_0 := zC20 BK105; have hcz48_1 := zC21 BK105; have hfz48_0 := blk_frozen BK105.out 0; have hfz48_1 := blk_frozen BK105.out 1) | ((with_reducible refine gate_dst (N := 74) rfl ?_); (try (refine gate_guard (by rfl) ?_; dsimp only)); refine Kd.R_make (Kd.int .i64) _ 3 rfl (N := 74) rfl 28 _ _ rfl t101 rfl rfl Try.underlying28 (.int .i64 0) 8 info3 rfl (by decide) (by omega) 0 (ok := fun _ => True) (okp := fun _ => True) rfl (fun _ hk => hk) trivial (of_decide_eq_true zz4) (Nat.le_trans (Nat.mul_le_mul_right _ (of_decide_eq_true zz4 : t101.toNat ≤ 35184372088832)) (by omega)) (Below.refl _ _) (Nat.le_refl _) ?_; intro v128 w49 ho50 hb hg_ hnew_; clear hg_ hnew_; (first | rw [← Ny127.out] at ho50 | (simp only [Int.reduceToNat] at ho50; rw [← Ny127.out] at ho50)); have n_ := zA8 (Kd.R_elder' zz86 (Kd.R_base ho50) hb) (Kd.R_elder' zz49 (Kd.R_base ho50) hb) (Kd.R_elder' zz46 (Kd.R_base ho50) hb) (Kd.R_below zz73 hb) (Kd.R_elder' (by (with_reducible repeat (first | apply Kd.R_alloc | apply Kd.R_drewN | apply Kd.R_drew)); exact HO126.out) (Kd.R_base ho50) hb) (Kd.R_lower (Kd.R_new' (Kd.R_new' (Kd.R_new' (Kd.R_new' ho50 (Kd.R_lt zz86)) (Kd.R_lt zz49)) (Kd.R_lt zz46)) (Kd.R_lt (by (with_reducible repeat (first | apply Kd.R_alloc | apply Kd.R_drewN | apply Kd.R_drew)); exact HO126.out))) (below_size zz19)) (blk_below (g := gb105) (o := .cells #[.int .i64 t101, .slice Ao12 t102.length co12] 25 (0, 0)) zz41 hb) (below_step zz19 hb); clear HO_5 HO_6 HO_7 HO_106001 HO126 BK105 HB; obtain ⟨HO_5, HO_6, HO_7, HO_106001, HO126, HO129, BK105, HB⟩ := n_; clear hb ho50))); (go_loopg [10, 12] kj7 (fun kq v10 v12 w' => ∃ (x10_2 : List Int) (x11_2 : List Int) (x12_2 : Int), v12 = .int .i64 x12_2 ∧ Aside0 (laws_FnAbelian.l0 kq (Int.tmod t106 t101) t110 t113 t120 x10_2 x11_2 x12_2 t101 t102 = some r) ∧ Aside0 (kq ≤ kj7) ∧ Aside0 (Kd.R (Kd.int .i64) 3 w' w.heap.size (fun k_ => some k_ ≠ (v114 : Value).ownBlock ∧ some k_ ≠ (v10 : Value).ownBlock ∧ some k_ ≠ (v128 : Value).ownBlock) v111 t110) ∧ Aside0 (Kd.R (Kd.int .i64) 3 w' w.heap.size (fun k_ => some k_ ≠ (v111 : Value).ownBlock ∧ some k_ ≠ (v10 : Value).ownBlock ∧ some k_ ≠ (v128 : Value).ownBlock) v114 t113) ∧ Aside0 (Kd.R (Kd.int .i64) 3 w' w.heap.size (fun k_ => some k_ ≠ (v111 : Value).ownBlock ∧ some k_ ≠ (v114 : Value).ownBlock ∧ some k_ ≠ (v128 : Value).ownBlock) v10 x10_2) ∧ Aside0 (Kd.R (Kd.int .i64) 3 w' w.heap.size (fun k_ => some k_ ≠ (v111 : Value).ownBlock ∧ some k_ ≠ (v114 : Value).ownBlock ∧ some k_ ≠ (v10 : Value).ownBlock) v128 x11_2) ∧ Aside0 (Kd.R k83 83 w' w.heap.size (fun _ => True) (.slice Ao12 t102.length co12) t102) ∧ Aside0 (w'.heap[gb105]? = some (.cells #[.int .i64 t101, (.slice Ao12 t102.length co12)] 25 (0, 0))) ∧ Aside0 (Below w.heap.size w w'))); case atStart => exact ⟨(y124), (y127), (0), zz10, H', ⟨Nat.le_refl _⟩, ⟨by (with_reducible repeat (first | apply Kd.R_alloc | apply Kd.R_drewN | apply Kd.R_drew)); exact Kd.R_mono HO_6.out (fun _ hk => ⟨hk.1.1.2, ⟨hk.1.2, hk.2⟩⟩)⟩, ⟨by (with_reducible repeat (first | apply Kd.R_alloc | apply Kd.R_drewN | apply Kd.R_drew)); exact Kd.R_mono HO_7.out (fun _ hk => ⟨hk.1.1.2, ⟨hk.1.2, hk.2⟩⟩)⟩, ⟨by (with_reducible repeat (first | apply Kd.R_alloc | apply Kd.R_drewN | apply Kd.R_drew)); exact Kd.R_mono HO126.out (fun _ hk => ⟨hk.1.2.1, ⟨hk.1.2.2, hk.2⟩⟩)⟩, ⟨by (with_reducible repeat (first | apply Kd.R_alloc | apply Kd.R_drewN | apply Kd.R_drew)); exact Kd.R_mono HO129.out (fun _ hk => ⟨hk.1.1.2, ⟨hk.1.2, hk.2⟩⟩)⟩, ⟨zz73⟩, ⟨zz41⟩, ⟨zz19⟩⟩
   case round =>
    clear H'; (try clear c1); (try clear c2); (try clear c2b0); (try clear c2b1); (try clear p2); (try clear c3); (try clear c4); (try clear c5); (try clear c5b0); (try clear c5b1); (try clear c9); (try clear c10); (try clear c12); (try clear c18); (try clear c21); (try clear c22); (try clear c22b0); (try clear c22b1); (try clear c24); (try clear c39); (try clear c41); (try clear c42); (try clear c42b0); (try clear c42b1); (try clear c43); (try clear c43b0); (try clear c43b1); (try clear hcz11_0); (try clear hcz11_1); (try clear hcz16_0); (try clear hcz16_1); (try clear hcz18_0); (try clear hcz18_1); (try clear hcz28_0); (try clear hcz28_1); (try clear hcz31_0); (try clear hcz31_1); (try clear hcz34_0); (try clear hcz34_1); (try clear hcz38_0); (try clear hcz38_1); (try clear hcz48_0); (try clear hcz48_1); (try clear hfz11_0); (try clear hfz11_1); (try clear hfz16_0); (try clear hfz16_1); (try clear hfz18_0); (try clear hfz18_1); (try clear hfz28_0); (try clear hfz28_1); (try clear hfz31_0); (try clear hfz31_1); (try clear hfz34_0); (try clear hfz34_1); (try clear hfz38_0); (try clear hfz38_1); (try clear hfz48_0); (try clear hfz48_1); (try clear p2); obtain ⟨x10_2, x11_2, x12_2, rfl, HA, HK2, HO_6, HO_7, HO_10, HO_11, HO_106001, BK105, HB⟩ := hrel
    cases gk with
    | zero => exact absurd HA.out (by simp [laws_FnAbelian.l0])
    | succ k2 =>
     have H := HA.out; clear HA; simp only [laws_FnAbelian.l0] at H; by_cases c51 : x12_2 < 5000; rotate_left
     ·rw [if_neg c51] at H; have c51b0 := decide_eq_false c51; clear c51; replace H := Option.bind_eq_some_iff.mp H; obtain ⟨t130, A820, H⟩ := H; (try dsimp only at H); have A82 := Aside0.mk A820; clear A820; by_cases c83 : t130 = true; rotate_left
      ·replace c83 := Bool.eq_false_iff.mpr c83; subst c83; rw [if_neg (show ¬ (false = true) by decide)] at H; exact absurd H (by simp)
      subst c83; rw [if_pos rfl] at H; replace H := Option.bind_eq_some_iff.mp H; obtain ⟨t131, A840, H⟩ := H; (try dsimp only at H); have A84 := Aside0.mk A840; clear A840; obtain rfl := Option.some.inj H; obtain ⟨Ao85, co85, eo85⟩ := Kd.R_slice HO_6.out; subst eo85; obtain ⟨Ao86, co86, eo86⟩ := Kd.R_slice HO_10.out; subst eo86; (go_wp2_with (first | ((with_reducible refine gate_callee (f := 17) rfl ?_); refine goesL_ (some 124) rfl rfl Try.func17 (by kernel_rfl) rfl #[.slice Ao85 t110.length co85, .slice Ao86 x10_2.length co86] rfl zz3 ?_; (with_reducible refine (laws_same.calls k2 _ _ t110 _ _ x10_2 true _ ?side1 ?side2 ?side3 ?side4 A82.out).mono ?_); (case side1 => repeat (first | exact (Kd.R_reads' HO_6.out).2.2 | (with_reducible refine Kd.C_alloc ?_ _) | (with_reducible refine Kd.C_drewN ?_ _) | (with_reducible refine Kd.C_drew ?_))); (case side2 => exact (Kd.R_reads' HO_6.out).2.1); (case side3 => exact zz85); (case side4 => exact (Kd.R_reads' HO_10.out).2.1); rintro e w' ⟨rfl, ⟨nd, rfl⟩⟩; refine ⟨_, rfl, ?_⟩; obtain ⟨Ao87, co87, eo87⟩ := Kd.R_slice HO_7.out; subst eo87; obtain ⟨Ao88, co88, eo88⟩ := Kd.R_slice HO_11.out; subst eo88) | (go_at_call 17; (with_reducible refine (laws_same.calls k2 _ _ t113 _ _ x11_2 t131 _ ?side1 ?side2 ?side3 ?side4 A84.out).mono ?_); (case side1 => repeat (first | exact (Kd.R_reads' HO_7.out).2.2 | (with_reducible refine Kd.C_alloc ?_ _) | (with_reducible refine Kd.C_drewN ?_ _) | (with_reducible refine Kd.C_drew ?_))); (case side2 => exact (Kd.R_reads' HO_7.out).2.1); (case side3 => repeat (first | exact (Kd.R_reads' HO_11.out).2.2 | (with_reducible refine Kd.C_alloc ?_ _) | (with_reducible refine Kd.C_drewN ?_ _) | (with_reducible refine Kd.C_drew ?_))); (case side4 => exact (Kd.R_reads' HO_11.out).2.1); rintro e w' ⟨rfl, ⟨nd, rfl⟩⟩))); go_ret; exact ⟨zz11, zz19⟩
     rw [if_pos c51] at H; have c51b0 := decide_eq_true c51; clear c51; have H' := Aside0.mk H; clear H; go_wp2; (go_loopg [13, 14] k2 (fun kq v13 v14 w' => ∃ (x13_3 : Int) (x14_3 : Int), v13 = .int .i64 x13_3 ∧ v14 = .int .i64 x14_3 ∧ Aside0 (laws_FnAbelian.l1 kq (Int.tmod t106 t101) t110 t113 t120 x10_2 x11_2 x12_2 x13_3 x14_3 t101 t102 = some r) ∧ Aside0 (kq ≤ k2) ∧ Aside0 (Kd.R (Kd.int .i64) 3 w' w.heap.size (fun k_ => some k_ ≠ (v114 : Value).ownBlock ∧ some k_ ≠ (u10 : Value).ownBlock ∧ some k_ ≠ (v128 : Value).ownBlock) v111 t110) ∧ Aside0 (Kd.R (Kd.int .i64) 3 w' w.heap.size (fun k_ => some k_ ≠ (v111 : Value).ownBlock ∧ some k_ ≠ (u10 : Value).ownBlock ∧ some k_ ≠ (v128 : Value).ownBlock) v114 t113) ∧ Aside0 (Kd.R (Kd.int .i64) 3 w' w.heap.size (fun k_ => some k_ ≠ (v111 : Value).ownBlock ∧ some k_ ≠ (v114 : Value).ownBlock ∧ some k_ ≠ (v128 : Value).ownBlock) u10 x10_2) ∧ Aside0 (Kd.R (Kd.int .i64) 3 w' w.heap.size (fun k_ => some k_ ≠ (v111 : Value).ownBlock ∧ some k_ ≠ (v114 : Value).ownBlock ∧ some k_ ≠ (u10 : Value).ownBlock) v128 x11_2) ∧ Aside0 (Kd.R k83 83 w' w.heap.size (fun _ => True) (.slice Ao12 t102.length co12) t102) ∧ Aside0 (w'.heap[gb105]? = some (.cells #[.int .i64 t101, (.slice Ao12 t102.length co12)] 25 (0, 0))) ∧ Aside0 (Below w.heap.size w w'))); case atStart => exact ⟨((-1)), (0), zz10, zz10, H', ⟨Nat.le_refl _⟩, ⟨by (with_reducible repeat (first | apply Kd.R_alloc | apply Kd.R_drewN | apply Kd.R_drew)); exact HO_6.out⟩, ⟨by (with_reducible repeat (first | apply Kd.R_alloc | apply Kd.R_drewN | apply Kd.R_drew)); exact HO_7.out⟩, ⟨by (with_reducible repeat (first | apply Kd.R_alloc | apply Kd.R_drewN | apply Kd.R_drew)); exact HO_10.out⟩, ⟨by (with_reducible repeat (first | apply Kd.R_alloc | apply Kd.R_drewN | apply Kd.R_drew)); exact HO_11.out⟩, ⟨zz73⟩, ⟨zz41⟩, ⟨zz19⟩⟩
     case round =>
      clear H'; (try clear c1); (try clear c2); (try clear c2b0); (try clear c2b1); (try clear p2); (try clear c3); (try clear c4); (try clear c5); (try clear c5b0); (try clear c5b1); (try clear c9); (try clear c10); (try clear c12); (try clear c18); (try clear c21); (try clear c22); (try clear c22b0); (try clear c22b1); (try clear c24); (try clear c39); (try clear c41); (try clear c42); (try clear c42b0); (try clear c42b1); (try clear c43); (try clear c43b0); (try clear c43b1); (try clear c51); (try clear c51b0); (try clear hcz11_0); (try clear hcz11_1); (try clear hcz16_0); (try clear hcz16_1); (try clear hcz18_0); (try clear hcz18_1); (try clear hcz28_0); (try clear hcz28_1); (try clear hcz31_0); (try clear hcz31_1); (try clear hcz34_0); (try clear hcz34_1); (try clear hcz38_0); (try clear hcz38_1); (try clear hcz48_0); (try clear hcz48_1); (try clear hfz11_0); (try clear hfz11_1); (try clear hfz16_0); (try clear hfz16_1); (try clear hfz18_0); (try clear hfz18_1); (try clear hfz28_0); (try clear hfz28_1); (try clear hfz31_0); (try clear hfz31_1); (try clear hfz34_0); (try clear hfz34_1); (try clear hfz38_0); (try clear hfz38_1); (try clear hfz48_0); (try clear hfz48_1); (try clear p2); obtain ⟨x13_3, x14_3, rfl, rfl, HA, HK3, HO_6, HO_7, HO_10, HO_11, HO_106001, BK105, HB⟩ := hrel
      cases gk with
      | zero => exact absurd HA.out (by simp [laws_FnAbelian.l1])
      | succ k3 =>
       have H := HA.out; clear HA; simp only [laws_FnAbelian.l1] at H; by_cases c52 : x14_3 < t101
       ·rw [if_pos c52] at H; have c52b0 := decide_eq_true c52; clear c52; by_cases c53 : t101 = 0
        ·rw [if_pos c53] at H; exact absurd H (by simp)
        rw [if_neg c53] at H; have c53b0 : (t101 == 0) = false := beq_eq_false_iff_ne.mpr c53; have c53b1 : (t101 != 0) = true := bne_iff_ne.mpr c53; replace H := Option.bind_eq_some_iff.mp H; obtain ⟨⟨t132, t135⟩, A540, H⟩ := H; dsimp only at H; have A54 := Aside0.mk A540; clear A540; by_cases c55 : t135 = true
        ·subst c55; rw [if_pos rfl] at H; have H' := Aside0.mk H; clear H; have hcz56_0 := zC20 BK105; have hcz56_1 := zC21 BK105; have hfz56_0 := blk_frozen BK105.out 0; have hfz56_1 := blk_frozen BK105.out 1; obtain ⟨Ao57, co57, eo57⟩ := Kd.R_slice HO_10.out; subst eo57; (go_wp2_with (first | ((with_reducible refine gate_callee (f := 22) rfl ?_); refine goesL_ (some 98) rfl rfl Try.func22 (by kernel_rfl) rfl #[.agg #[.int .i64 t101, .slice Ao12 t102.length co12], .slice Ao57 x10_2.length co57, .int .i64 (Int.tmod t106 t101), .int .i64 (Int.tmod (wrap64 ((wrap64 (x14_3 + x12_2)) + t120)) t101)] rfl zz3 ?_; (with_reducible refine (impl_Topple.calls k3 t101 _ _ t102 _ _ x10_2 (Int.tmod t106 t101) (Int.tmod (wrap64 ((wrap64 (x14_3 + x12_2)) + t120)) t101) t132 true _ ?side1 ?side2 ?side3 ?side4 A54.out).mono ?_); (case side1 => exact zz124); (case side2 => exact (Kd.R_reads' HO_106001.out).2.1); (case side3 => exact zz85); (case side4 => exact (Kd.R_reads' HO_10.out).2.1); rintro e w58 ⟨v133, rfl, ho0, hb⟩; refine ⟨_, rfl, ?_⟩; have n_ := zA8 (Kd.R_elder' zz49 (Kd.R_base ho0) hb) (Kd.R_elder' zz46 (Kd.R_base ho0) hb) (Kd.R_elder' zz96 (Kd.R_base ho0) hb) (Kd.R_elder' zz97 (Kd.R_base ho0) hb) (Kd.R_below zz73 hb) (Kd.R_lower (Kd.R_new' (Kd.R_new' (Kd.R_new' (Kd.R_new' ho0 (Kd.R_lt zz49)) (Kd.R_lt zz46)) (Kd.R_lt zz96)) (Kd.R_lt zz97)) (below_size zz19)) (blk_below (g := gb105) (o := .cells #[.int .i64 t101, .slice Ao12 t102.length co12] 25 (0, 0)) zz41 hb) (below_step zz19 hb); clear HO_6 HO_7 HO_10 HO_11 HO_106001 BK105 HB; obtain ⟨HO_6, HO_7, HO_10, HO_11, HO_106001, HO134, BK105, HB⟩ := n_; clear ho0 hb))); go_roundg k3; (case measure => have := HJ7.out; have := HK2.out; have := HK3.out; omega); case rel => exact ⟨(Int.tmod (wrap64 ((wrap64 (x14_3 + x12_2)) + t120)) t101), (wrap64 (x14_3 + 1)), zz10, zz10, H', ⟨by have := HJ7.out; have := HK2.out; have := HK3.out; omega⟩, ⟨by (with_reducible repeat (first | apply Kd.R_alloc | apply Kd.R_drewN | apply Kd.R_drew)); exact Kd.R_mono HO_6.out (fun _ hk => ⟨hk.1.1, ⟨hk.1.2.1, hk.1.2.2⟩⟩)⟩, ⟨by (with_reducible repeat (first | apply Kd.R_alloc | apply Kd.R_drewN | apply Kd.R_drew)); exact Kd.R_mono HO_7.out (fun _ hk => ⟨hk.1.1, ⟨hk.1.2.1, hk.1.2.2⟩⟩)⟩, ⟨by (with_reducible repeat (first | apply Kd.R_alloc | apply Kd.R_drewN | apply Kd.R_drew)); exact Kd.R_mono HO_10.out (fun _ hk => ⟨hk.1.1, ⟨hk.1.2.1, hk.1.2.2⟩⟩)⟩, ⟨by (with_reducible repeat (first | apply Kd.R_alloc | apply Kd.R_drewN | apply Kd.R_drew)); exact Kd.R_mono HO_11.out (fun _ hk => ⟨hk.1.1, ⟨hk.1.2.1, hk.1.2.2⟩⟩)⟩, ⟨zz73⟩, ⟨zz41⟩, ⟨zz19⟩⟩
        replace c55 := Bool.eq_false_iff.mpr c55; subst c55; rw [if_neg (show ¬ (false = true) by decide)] at H; have H' := Aside0.mk H; clear H; have hcz59_0 := zC20 BK105; have hcz59_1 := zC21 BK105; have hfz59_0 := blk_frozen BK105.out 0; have hfz59_1 := blk_frozen BK105.out 1; obtain ⟨Ao60, co60, eo60⟩ := Kd.R_slice HO_10.out; subst eo60; (go_wp2_with (first | ((with_reducible refine gate_callee (f := 22) rfl ?_); refine goesL_ (some 98) rfl rfl Try.func22 (by kernel_rfl) rfl #[.agg #[.int .i64 t101, .slice Ao12 t102.length co12], .slice Ao60 x10_2.length co60, .int .i64 (Int.tmod t106 t101), .int .i64 (Int.tmod (wrap64 ((wrap64 (x14_3 + x12_2)) + t120)) t101)] rfl zz3 ?_; (with_reducible refine (impl_Topple.calls k3 t101 _ _ t102 _ _ x10_2 (Int.tmod t106 t101) (Int.tmod (wrap64 ((wrap64 (x14_3 + x12_2)) + t120)) t101) t132 false _ ?side1 ?side2 ?side3 ?side4 A54.out).mono ?_); (case side1 => exact zz124); (case side2 => exact (Kd.R_reads' HO_106001.out).2.1); (case side3 => exact zz85); (case side4 => exact (Kd.R_reads' HO_10.out).2.1); rintro e w61 ⟨v133, rfl, ho0, hb⟩; refine ⟨_, rfl, ?_⟩; have n_ := zA8 (Kd.R_elder' zz49 (Kd.R_base ho0) hb) (Kd.R_elder' zz46 (Kd.R_base ho0) hb) (Kd.R_elder' zz96 (Kd.R_base ho0) hb) (Kd.R_elder' zz97 (Kd.R_base ho0) hb) (Kd.R_below zz73 hb) (Kd.R_lower (Kd.R_new' (Kd.R_new' (Kd.R_new' (Kd.R_new' ho0 (Kd.R_lt zz49)) (Kd.R_lt zz46)) (Kd.R_lt zz96)) (Kd.R_lt zz97)) (below_size zz19)) (blk_below (g := gb105) (o := .cells #[.int .i64 t101, .slice Ao12 t102.length co12] 25 (0, 0)) zz41 hb) (below_step zz19 hb); clear HO_6 HO_7 HO_10 HO_11 HO_106001 BK105 HB; obtain ⟨HO_6, HO_7, HO_10, HO_11, HO_106001, HO134, BK105, HB⟩ := n_; clear ho0 hb))); go_roundg k3; (case measure => have := HJ7.out; have := HK2.out; have := HK3.out; omega); case rel => exact ⟨(x13_3), (wrap64 (x14_3 + 1)), zz10, zz10, H', ⟨by have := HJ7.out; have := HK2.out; have := HK3.out; omega⟩, ⟨by (with_reducible repeat (first | apply Kd.R_alloc | apply Kd.R_drewN | apply Kd.R_drew)); exact Kd.R_mono HO_6.out (fun _ hk => ⟨hk.1.1, ⟨hk.1.2.1, hk.1.2.2⟩⟩)⟩, ⟨by (with_reducible repeat (first | apply Kd.R_alloc | apply Kd.R_drewN | apply Kd.R_drew)); exact Kd.R_mono HO_7.out (fun _ hk => ⟨hk.1.1, ⟨hk.1.2.1, hk.1.2.2⟩⟩)⟩, ⟨by (with_reducible repeat (first | apply Kd.R_alloc | apply Kd.R_drewN | apply Kd.R_drew)); exact Kd.R_mono HO_10.out (fun _ hk => ⟨hk.1.1, ⟨hk.1.2.1, hk.1.2.2⟩⟩)⟩, ⟨by (with_reducible repeat (first | apply Kd.R_alloc | apply Kd.R_drewN | apply Kd.R_drew)); exact Kd.R_mono HO_11.out (fun _ hk => ⟨hk.1.1, ⟨hk.1.2.1, hk.1.2.2⟩⟩)⟩, ⟨zz73⟩, ⟨zz41⟩, ⟨zz19⟩⟩
       rw [if_neg c52] at H; have c52b0 := decide_eq_false c52; clear c52; by_cases c62 : x13_3 < 0
       ·rw [if_pos c62] at H; have c62b0 := decide_eq_true c62; clear c62; replace H := Option.bind_eq_some_iff.mp H; obtain ⟨t136, A630, H⟩ := H; (try dsimp only at H); have A63 := Aside0.mk A630; clear A630; by_cases c64 : t136 = true; rotate_left
        ·replace c64 := Bool.eq_false_iff.mpr c64; subst c64; rw [if_neg (show ¬ (false = true) by decide)] at H; exact absurd H (by simp)
        subst c64; rw [if_pos rfl] at H; replace H := Option.bind_eq_some_iff.mp H; obtain ⟨t137, A650, H⟩ := H; (try dsimp only at H); have A65 := Aside0.mk A650; clear A650; obtain rfl := Option.some.inj H; have hcz66_0 := zC20 BK105; have hcz66_1 := zC21 BK105; have hfz66_0 := blk_frozen BK105.out 0; have hfz66_1 := blk_frozen BK105.out 1; obtain ⟨Ao67, co67, eo67⟩ := Kd.R_slice HO_6.out; subst eo67; obtain ⟨Ao68, co68, eo68⟩ := Kd.R_slice HO_10.out; subst eo68; (go_wp2_with (first | ((with_reducible refine gate_callee (f := 17) rfl ?_); refine goesL_ (some 124) rfl rfl Try.func17 (by kernel_rfl) rfl #[.slice Ao67 t110.length co67, .slice Ao68 x10_2.length co68] rfl zz3 ?_; (with_reducible refine (laws_same.calls k3 _ _ t110 _ _ x10_2 true _ ?side1 ?side2 ?side3 ?side4 A63.out).mono ?_); (case side1 => repeat (first | exact (Kd.R_reads' HO_6.out).2.2 | (with_reducible refine Kd.C_alloc ?_ _) | (with_reducible refine Kd.C_drewN ?_ _) | (with_reducible refine Kd.C_drew ?_))); (case side2 => exact (Kd.R_reads' HO_6.out).2.1); (case side3 => exact zz85); (case side4 => exact (Kd.R_reads' HO_10.out).2.1); rintro e w' ⟨rfl, ⟨nd, rfl⟩⟩; refine ⟨_, rfl, ?_⟩; obtain ⟨Ao69, co69, eo69⟩ := Kd.R_slice HO_7.out; subst eo69; obtain ⟨Ao70, co70, eo70⟩ := Kd.R_slice HO_11.out; subst eo70) | (go_at_call 17; (with_reducible refine (laws_same.calls k3 _ _ t113 _ _ x11_2 t137 _ ?side1 ?side2 ?side3 ?side4 A65.out).mono ?_); (case side1 => repeat (first | exact (Kd.R_reads' HO_7.out).2.2 | (with_reducible refine Kd.C_alloc ?_ _) | (with_reducible refine Kd.C_drewN ?_ _) | (with_reducible refine Kd.C_drew ?_))); (case side2 => exact (Kd.R_reads' HO_7.out).2.1); (case side3 => repeat (first | exact (Kd.R_reads' HO_11.out).2.2 | (with_reducible refine Kd.C_alloc ?_ _) | (with_reducible refine Kd.C_drewN ?_ _) | (with_reducible refine Kd.C_drew ?_))); (case side4 => exact (Kd.R_reads' HO_11.out).2.1); rintro e w' ⟨rfl, ⟨nd, rfl⟩⟩))); go_ret; exact ⟨zz11, zz19⟩
       rw [if_neg c62] at H; have c62b0 := decide_eq_false c62; clear c62; replace H := Option.bind_eq_some_iff.mp H; obtain ⟨⟨t138, t141⟩, A710, H⟩ := H; dsimp only at H; have A71 := Aside0.mk A710; clear A710; by_cases c72 : t141 = true; rotate_left
       ·replace c72 := Bool.eq_false_iff.mpr c72; subst c72; rw [if_neg (show ¬ (false = true) by decide)] at H; exact absurd H (by simp)
       subst c72; rw [if_pos rfl] at H; by_cases c73 : 0 ≤ x13_3; rotate_left
       ·rw [if_neg c73] at H; exact absurd H (by simp)
       rw [if_pos c73] at H; have c73b0 := decide_eq_true c73; clear c73; by_cases c74 : x13_3 < (x11_2.length : Int); rotate_left
       ·rw [if_neg c74] at H; exact absurd H (by simp)
       rw [if_pos c74] at H; have c74b0 := decide_eq_true c74; clear c74; obtain ⟨y143, hy_⟩ : ∃ y_ : List Int, y_ = (x11_2.set (x13_3 : Int).toNat (wrap64 ((rd x11_2 x13_3) + 1))) := ⟨_, rfl⟩; (replace H : (laws_FnAbelian.l0 k3 (Int.tmod t106 t101) t110 t113 t120 t138 y143 (wrap64 (x12_2 + 1)) t101 t102) = some r := zzY); have Ny143 := Aside0.mk hy_; clear hy_; have H' := Aside0.mk H; clear H; have hcz76_0 := zC20 BK105; have hcz76_1 := zC21 BK105; have hfz76_0 := blk_frozen BK105.out 0; have hfz76_1 := blk_frozen BK105.out 1; obtain ⟨Ao77, co77, eo77⟩ := Kd.R_slice HO_10.out; subst eo77; (go_wp2_with (first | ((with_reducible refine gate_callee (f := 22) rfl ?_); refine goesL_ (some 110) rfl rfl Try.func22 (by kernel_rfl) rfl #[.agg #[.int .i64 t101, .slice Ao12 t102.length co12], .slice Ao77 x10_2.length co77, .int .i64 (Int.tmod t106 t101), .int .i64 x13_3] rfl zz3 ?_; (with_reducible refine (impl_Topple.calls k3 t101 _ _ t102 _ _ x10_2 (Int.tmod t106 t101) x13_3 t138 true _ ?side1 ?side2 ?side3 ?side4 A71.out).mono ?_); (case side1 => exact zz124); (case side2 => exact (Kd.R_reads' HO_106001.out).2.1); (case side3 => exact zz85); (case side4 => exact (Kd.R_reads' HO_10.out).2.1); rintro e w78 ⟨v139, rfl, ho0, hb⟩; refine ⟨_, rfl, ?_⟩; have n_ := zA8 (Kd.R_elder' zz49 (Kd.R_base ho0) hb) (Kd.R_elder' zz46 (Kd.R_base ho0) hb) (Kd.R_elder' zz96 (Kd.R_base ho0) hb) (Kd.R_elder' zz97 (Kd.R_base ho0) hb) (Kd.R_below zz73 hb) (Kd.R_lower (Kd.R_new' (Kd.R_new' (Kd.R_new' (Kd.R_new' ho0 (Kd.R_lt zz49)) (Kd.R_lt zz46)) (Kd.R_lt zz96)) (Kd.R_lt zz97)) (below_size zz19)) (blk_below (g := gb105) (o := .cells #[.int .i64 t101, .slice Ao12 t102.length co12] 25 (0, 0)) zz41 hb) (below_step zz19 hb); clear HO_6 HO_7 HO_10 HO_11 HO_106001 BK105 HB; obtain ⟨HO_6, HO_7, HO_10, HO_11, HO_106001, HO140, BK105, HB⟩ := n_; clear ho0 hb; obtain ⟨Ao79, co79, eo79⟩ := Kd.R_slice HO_11.out; subst eo79; have p142 : 0 ≤ (x13_3 : Int) := of_decide_eq_true zz4; have q142 : x13_3 < (x11_2.length : Int) := of_decide_eq_true zz4; obtain ⟨ad142, e142, hx142_0⟩ := Kd.at_int (Kd.R_reads' HO_11.out).2.2 x13_3 p142 q142; cases e142; replace p142 := eq_true p142; replace q142 := eq_true q142; have p75 : 0 ≤ (x13_3 : Int) := of_decide_eq_true zz4; have q75 : (x13_3 : Int) < ((x11_2.length : Int) : Int) := of_decide_eq_true zz4; obtain ⟨go75, co75, eo75, gb75, gl75, cl75, HG75⟩ := Kd.R_form HO_11.out (by omega); (first | cases eo75 | (injection eo75 with ea_ en_ ec_; (first | subst ea_ | (injection ea_ with ea_; subst ea_)); subst ec_; clear en_)); have GB75 := Aside0.mk gb75; have GG75 := Aside0.mk HG75; clear gb75 gl75 HG75; (first | simp only [add_plain] at hx142_0 | skip); obtain ⟨hx75_0, hf75_0⟩ := Kd.R_celln 0 HO_11.out (x13_3 : Int) p75 q75; replace p75 := eq_true p75; replace q75 := eq_true q75; have n_ := Aside0.mk (Kd.R_mono (ok' := (fun k_ => some k_ ≠ (v111 : Value).ownBlock ∧ some k_ ≠ (v114 : Value).ownBlock ∧ some k_ ≠ (.slice Ao77 x10_2.length co77 : Value).ownBlock ∧ some k_ ≠ (v139 : Value).ownBlock)) HO_11.out (fun k_ hk => ⟨hk.1.1, ⟨hk.1.2.1, ⟨hk.1.2.2, hk.2⟩⟩⟩)); clear HO_11; have HO_11 := n_; clear n_; obtain ⟨hy80_, hz80_⟩ := Kd.R_celln 0 HO_11.out (x13_3 : Int) (of_decide_eq_true zz4) (of_decide_eq_true zz4); have HP80 := Kd.R_putg HO_11.out (x13_3 : Int) (wrap64 ((rd x11_2 x13_3) + 1))) | ((with_reducible refine gate_store (t := 3) (p := 121) rfl ?_); refine store_event (t := 3) (p := 121) (v := ?vo_w81) (w1 := (w78.setCell ⟨go75, (x13_3 : Int).toNat, none⟩ (.int .i64 (wrap64 ((rd x11_2 x13_3) + 1))))) ?hg ?ho ?hn ?hr ?_; (case ho => rfl); (case hg => rfl); (case hn => rfl); (case hr => exact zz22); intro w81 hw; have hg : w78.grownBy w81 (some go75) := (by rw [hw]; exact HP80.2); have hp_ : Kd.R (Kd.int .i64) 3 w81 w.heap.size (fun k_ => some k_ ≠ (v111 : Value).ownBlock ∧ some k_ ≠ (v114 : Value).ownBlock ∧ some k_ ≠ (.slice Ao77 x10_2.length co77 : Value).ownBlock ∧ some k_ ≠ (v139 : Value).ownBlock) (.slice (some ⟨go75, 0, none⟩) x11_2.length co79) y143 := (by rw [hw, Ny143.out]; exact HP80.1); clear HP80; have n_ := zA8 (Kd.R_after (v := (.slice (some ⟨go75, 0, none⟩) x11_2.length co79)) (v1 := (.slice (some ⟨go75, 0, none⟩) x11_2.length co79)) (ok := (fun k_ => some k_ ≠ (v114 : Value).ownBlock ∧ some k_ ≠ (.slice Ao77 x10_2.length co77 : Value).ownBlock ∧ some k_ ≠ (v139 : Value).ownBlock)) (by (with_reducible repeat (first | apply Kd.R_alloc | apply Kd.R_drewN | apply Kd.R_drew)); exact Kd.R_mono HO_6.out (fun _ hk => ⟨⟨hk.1.1, ⟨hk.1.2.1, hk.2⟩⟩, hk.1.2.2⟩)) hg (.inl rfl)) (Kd.R_after (v := (.slice (some ⟨go75, 0, none⟩) x11_2.length co79)) (v1 := (.slice (some ⟨go75, 0, none⟩) x11_2.length co79)) (ok := (fun k_ => some k_ ≠ (v111 : Value).ownBlock ∧ some k_ ≠ (.slice Ao77 x10_2.length co77 : Value).ownBlock ∧ some k_ ≠ (v139 : Value).ownBlock)) (by (with_reducible repeat (first | apply Kd.R_alloc | apply Kd.R_drewN | apply Kd.R_drew)); exact Kd.R_mono HO_7.out (fun _ hk => ⟨⟨hk.1.1, ⟨hk.1.2.1, hk.2⟩⟩, hk.1.2.2⟩)) hg (.inl rfl)) (Kd.R_after (v := (.slice (some ⟨go75, 0, none⟩) x11_2.length co79)) (v1 := (.slice (some ⟨go75, 0, none⟩) x11_2.length co79)) (ok := (fun k_ => some k_ ≠ (v111 : Value).ownBlock ∧ some k_ ≠ (v114 : Value).ownBlock ∧ some k_ ≠ (v139 : Value).ownBlock)) (by (with_reducible repeat (first | apply Kd.R_alloc | apply Kd.R_drewN | apply Kd.R_drew)); exact Kd.R_mono HO_10.out (fun _ hk => ⟨⟨hk.1.1, ⟨hk.1.2.1, hk.2⟩⟩, hk.1.2.2⟩)) hg (.inl rfl)) hp_ (Kd.R_over' (v := (.slice (some ⟨go75, 0, none⟩) x11_2.length co79)) zz73 (Kd.R_typed HO_11.out) (by decide) hg) (blk_grown (g := gb105) (o := .cells #[.int .i64 t101, .slice Ao12 t102.length co12] 25 (0, 0)) zz41 hg (Kd.R_ne HO_11.out BK105.out (by decide))) (Kd.R_after (v := (.slice (some ⟨go75, 0, none⟩) x11_2.length co79)) (v1 := (.slice (some ⟨go75, 0, none⟩) x11_2.length co79)) (ok := (fun k_ => some k_ ≠ (v111 : Value).ownBlock ∧ some k_ ≠ (v114 : Value).ownBlock ∧ some k_ ≠ (.slice Ao77 x10_2.length co77 : Value).ownBlock)) (by (with_reducible repeat (first | apply Kd.R_alloc | apply Kd.R_drewN | apply Kd.R_drew)); exact Kd.R_mono HO140.out (fun _ hk => ⟨⟨hk.1.1.1.2, ⟨hk.1.1.2, hk.1.2⟩⟩, hk.2⟩)) hg (.inl rfl)) (by rw [hw]; exact below_set (HB.out) GB75.out : Below w.heap.size w w81); clear HO_6 HO_7 HO_10 HO_11 HO_106001 BK105 HO140 HB; obtain ⟨HO_6, HO_7, HO_10, HO_11, HO_106001, BK105, HO140, HB⟩ := n_; clear hg hw hp_))); go_roundg k3; (case measure => have := HJ7.out; have := HK2.out; have := HK3.out; omega); case rel => exact ⟨(t138), (y143), (wrap64 (x12_2 + 1)), zz10, H', ⟨by have := HJ7.out; have := HK2.out; have := HK3.out; omega⟩, ⟨by (with_reducible repeat (first | apply Kd.R_alloc | apply Kd.R_drewN | apply Kd.R_drew)); exact Kd.R_mono HO_6.out (fun _ hk => ⟨hk.1.1, ⟨hk.1.2.2, hk.2⟩⟩)⟩, ⟨by (with_reducible repeat (first | apply Kd.R_alloc | apply Kd.R_drewN | apply Kd.R_drew)); exact Kd.R_mono HO_7.out (fun _ hk => ⟨hk.1.1, ⟨hk.1.2.2, hk.2⟩⟩)⟩, ⟨by (with_reducible repeat (first | apply Kd.R_alloc | apply Kd.R_drewN | apply Kd.R_drew)); exact Kd.R_mono HO140.out (fun _ hk => ⟨hk.1.1, ⟨hk.1.2.1, hk.2⟩⟩)⟩, ⟨by (with_reducible repeat (first | apply Kd.R_alloc | apply Kd.R_drewN | apply Kd.R_drew)); exact Kd.R_mono HO_11.out (fun _ hk => ⟨hk.1, ⟨hk.2.1, hk.2.2.2⟩⟩)⟩, ⟨zz73⟩, ⟨zz41⟩, ⟨zz19⟩⟩
/-- THE ONE PURE STATEMENT of laws_FnAbelian: yours. -/
def laws_FnAbelian.Pure : Prop := ∀ (l0 : List Int), l0.length ≤ maxLen → l0.length * 1 ≤ 140737488351232 → (∀ x ∈ l0, (Lit.int .u8 x).wf = true) → ∃ k, laws_FnAbelian.f k l0 = some true
theorem laws_FnAbelian.walk (P : laws_FnAbelian.Pure) (a0 : Option Addr) (len0 cap0 : Nat) (z0 : List Int) (w : World) (w0 : (a0 = none ∧ len0 = 0 ∧ cap0 = 0 ∧ z0 = []) ∨ ∃ x, a0 = some x ∧ len0 ≤ cap0 ∧ cap0 ≤ maxLen ∧ z0.length = cap0 ∧ (∀ i, i < z0.length → w.cell? (x.add i) = some (.int .u8 (z0.getD i 0))) ∧ ∀ n ∈ z0, (Lit.int .u8 n).wf = true) (y0 : len0 * 1 ≤ 140737488351232) :
  Calls Try.prog 4 #[.slice a0 len0 cap0] w fun e w' => e = .returned (.bool true) ∧ Below w.heap.size w w' := by
 obtain ⟨l0, rfl, hr0, hm0, hw0, hc0⟩ := ReadsInt.ofRowC w0; obtain ⟨k, h⟩ := P l0 hm0 y0 hw0; refine (laws_FnAbelian.calls k _ _ l0 true w (Kd.C_of_reads (d := (0 : Int)) (h1 := fun _ => rfl) hr0) hc0 h).mono ?_; rintro e w' ⟨rfl, hd⟩; exact ⟨rfl, hd⟩
end Go.Proofs.Ytgobnfeahffnaaa.P
end

section
namespace Go.Proofs.Ytgobnfeahffnaaa.Cf
set_option linter.unusedVariables false
set_option linter.unusedSimpArgs false
def sumN : Nat → (Nat → Int) → Int
  | 0, _ => 0
  | n + 1, f => sumN n f + f n
def sumE (es : List E) (f : E → Int) : Int := (es.map f).sum
theorem sumE_cons (e : E) (r : List E) (f : E → Int) : sumE (e :: r) f = f e + sumE r f := by simp [sumE]
theorem sumN_congr {n : Nat} {f g : Nat → Int} (h : ∀ i, i < n → f i = g i) : sumN n f = sumN n g := by
  induction n with
  | zero => rfl
  | succ n ih => simp only [sumN]; rw [ih (fun i hi => h i (by omega)), h n (by omega)]
theorem sumN_le {n : Nat} {f g : Nat → Int} (h : ∀ i, i < n → f i ≤ g i) : sumN n f ≤ sumN n g := by
  induction n with
  | zero => exact Int.le_refl _
  | succ n ih =>
    simp only [sumN]
    have := ih (fun i hi => h i (by omega))
    have := h n (by omega)
    omega
theorem sumN_add (n : Nat) (f g : Nat → Int) : sumN n (fun i => f i + g i) = sumN n f + sumN n g := by
  induction n with
  | zero => rfl
  | succ n ih => simp only [sumN]; rw [ih]; omega
theorem sumN_zero (n : Nat) : sumN n (fun _ => 0) = 0 := by
  induction n with
  | zero => rfl
  | succ n ih => simp only [sumN]; rw [ih]; rfl
theorem sumN_const (n : Nat) (c : Int) : sumN n (fun _ => c) = n * c := by
  induction n with
  | zero => simp [sumN]
  | succ n ih => simp only [sumN]; rw [ih]; rw [Int.natCast_succ, Int.add_mul]; omega
theorem sumN_one {n : Nat} (k : Nat) (hk : k < n) (c : Int) : sumN n (fun i => if i = k then c else 0) = c := by
  induction n with
  | zero => omega
  | succ n ih =>
    simp only [sumN]
    by_cases h : n = k
    · subst h
      rw [if_pos rfl, sumN_congr (g := fun _ => 0) (fun i hi => by rw [if_neg (by omega)]), sumN_zero]
      omega
    · rw [ih (by omega), if_neg h]
      omega
theorem sumN_pos_term {n : Nat} {f : Nat → Int} (h : ∀ i, i < n → 0 ≤ f i) (k : Nat) (hk : k < n) : f k ≤ sumN n f := by
  induction n with
  | zero => omega
  | succ n ih =>
    simp only [sumN]
    have h0 : 0 ≤ sumN n f := by
      have := sumN_le (n := n) (f := fun _ => 0) (g := f) (fun i hi => h i (by omega))
      rw [sumN_zero] at this
      exact this
    by_cases e : k = n
    · subst e; omega
    · have := ih (fun i hi => h i (by omega)) (by omega)
      have := h n (by omega)
      omega
theorem sumE_congr {es : List E} {f g : E → Int} (h : ∀ e ∈ es, f e = g e) : sumE es f = sumE es g := by
  unfold sumE
  rw [List.map_congr_left h]
theorem sumE_add (es : List E) (f g : E → Int) : sumE es (fun e => f e + g e) = sumE es f + sumE es g := by
  induction es with
  | nil => rfl
  | cons e r ih => rw [sumE_cons, sumE_cons, sumE_cons, ih]; omega
theorem sumE_le {es : List E} {f g : E → Int} (h : ∀ e ∈ es, f e ≤ g e) : sumE es f ≤ sumE es g := by
  induction es with
  | nil => exact Int.le_refl _
  | cons e r ih =>
    rw [sumE_cons, sumE_cons]
    have := ih (fun x hx => h x (List.mem_cons_of_mem _ hx))
    have := h e List.mem_cons_self
    omega
theorem sumE_zero {es : List E} {f : E → Int} (h : ∀ e ∈ es, f e = 0) : sumE es f = 0 := by
  induction es with
  | nil => rfl
  | cons e r ih => rw [sumE_cons, ih (fun x hx => h x (List.mem_cons_of_mem _ hx)), h e List.mem_cons_self]; rfl
theorem sumE_nonneg {es : List E} {f : E → Int} (h : ∀ e ∈ es, 0 ≤ f e) : 0 ≤ sumE es f := by
  have := sumE_le (es := es) (f := fun _ => 0) (g := f) h
  rw [sumE_zero (fun _ _ => rfl)] at this
  exact this
theorem sumE_term {es : List E} {f : E → Int} (h : ∀ e ∈ es, 0 ≤ f e) {e : E} (he : e ∈ es) : f e ≤ sumE es f := by
  induction es with
  | nil => cases he
  | cons a r ih =>
    rw [sumE_cons]
    have h0 := sumE_nonneg (fun x hx => h x (List.mem_cons_of_mem a hx))
    rcases List.mem_cons.1 he with rfl | he
    · omega
    · have := ih (fun x hx => h x (List.mem_cons_of_mem _ hx)) he
      have := h a List.mem_cons_self
      omega
theorem sumE_neg (es : List E) (f : E → Int) : sumE es (fun e => - f e) = - sumE es f := by
  induction es with
  | nil => rfl
  | cons e r ih => rw [sumE_cons, sumE_cons, ih]; omega
theorem sumE_mul (es : List E) (c : Int) (f : E → Int) : sumE es (fun e => c * f e) = c * sumE es f := by
  induction es with
  | nil => simp [sumE]
  | cons e r ih => rw [sumE_cons, sumE_cons, ih, Int.mul_add]
/-- What an edge takes from w when the script s is fired. -/
def lapE (s : Int → Int) (w : Int) (e : E) : Int := (if e.f0 = w then s e.f0 - s e.f1 else 0) + (if e.f1 = w then s e.f1 - s e.f0 else 0)
/-- What w loses when the script s is fired. -/
def lap (es : List E) (s : Int → Int) (w : Int) : Int := sumE es (lapE s w)
def ind (P : Int → Bool) (v : Int) : Int := if P v then 1 else 0
def one (v : Int) (t : Int) (w : Int) : Int := if w = v then t else 0
theorem lap_nil (s : Int → Int) (w : Int) : lap [] s w = 0 := rfl
theorem lap_cons (e : E) (r : List E) (s : Int → Int) (w : Int) : lap (e :: r) s w = lapE s w e + lap r s w := sumE_cons _ _ _
theorem lap_add (es : List E) (s t : Int → Int) (w : Int) : lap es (fun v => s v + t v) w = lap es s w + lap es t w := by
  unfold lap
  rw [← sumE_add]
  apply sumE_congr
  intro e _
  simp only [lapE]
  split <;> split <;> omega
theorem lap_neg (es : List E) (s : Int → Int) (w : Int) : lap es (fun v => - s v) w = - lap es s w := by
  unfold lap
  rw [← sumE_neg]
  apply sumE_congr
  intro e _
  simp only [lapE]
  split <;> split <;> omega
theorem lap_sub (es : List E) (s t : Int → Int) (w : Int) : lap es (fun v => s v - t v) w = lap es s w - lap es t w := by
  have := lap_add es s (fun v => - t v) w
  rw [lap_neg] at this
  rw [show (fun v => s v - t v) = (fun v => s v + - t v) from funext fun v => by omega, this]
  omega
theorem lap_congr {n : Int} {es : List E} (hes : ∀ e ∈ es, EOk n e) {s t : Int → Int} (h : ∀ v, 0 ≤ v → v < n → s v = t v) (w : Int) : lap es s w = lap es t w := by
  apply sumE_congr
  intro e he
  have hk := hes e he
  unfold EOk at hk
  unfold lapE
  rw [h e.f0 (by omega) (by omega), h e.f1 (by omega) (by omega)]
theorem lap_const {es : List E} {s : Int → Int} {c : Int} (h : ∀ e ∈ es, s e.f0 = c ∧ s e.f1 = c) (w : Int) : lap es s w = 0 := by
  apply sumE_zero
  intro e he
  unfold lapE
  rw [(h e he).1, (h e he).2]
  split <;> split <;> omega
/-- Dirichlet's form. -/
theorem dirichlet {n : Nat} {es : List E} (hes : ∀ e ∈ es, EOk n e) (f s : Int → Int) : sumN n (fun i => f i * lap es s i) = sumE es (fun e => (f e.f0 - f e.f1) * (s e.f0 - s e.f1)) := by
  induction es with
  | nil => simp only [lap_nil, Int.mul_zero]; rw [sumN_zero]; rfl
  | cons e r ih =>
    have hk := hes e List.mem_cons_self
    unfold EOk at hk
    rw [sumE_cons, ← ih (fun x hx => hes x (List.mem_cons_of_mem _ hx))]
    have h1 : sumN n (fun i => f i * lap (e :: r) s i) = sumN n (fun i => f i * lapE s i e) + sumN n (fun i => f i * lap r s i) := by
      rw [← sumN_add]
      apply sumN_congr
      intro i _
      rw [lap_cons, Int.mul_add]
    rw [h1]
    congr 1
    have h2 : sumN n (fun i => f i * lapE s i e) = sumN n (fun i => if i = e.f0.toNat then f e.f0 * (s e.f0 - s e.f1) else 0) + sumN n (fun i => if i = e.f1.toNat then f e.f1 * (s e.f1 - s e.f0) else 0) := by
      rw [← sumN_add]
      apply sumN_congr
      intro i _
      unfold lapE
      have c0 : (e.f0 = (i : Int)) ↔ (i = e.f0.toNat) := by omega
      have c1 : (e.f1 = (i : Int)) ↔ (i = e.f1.toNat) := by omega
      rw [Int.mul_add]
      congr 1
      · by_cases h : e.f0 = (i : Int)
        · rw [if_pos h, if_pos (c0.1 h), h]
        · rw [if_neg h, if_neg (fun x => h (c0.2 x)), Int.mul_zero]
      · by_cases h : e.f1 = (i : Int)
        · rw [if_pos h, if_pos (c1.1 h), h]
        · rw [if_neg h, if_neg (fun x => h (c1.2 x)), Int.mul_zero]
    rw [h2, sumN_one _ (by omega), sumN_one _ (by omega)]
    rw [show s e.f1 - s e.f0 = -(s e.f0 - s e.f1) by omega, Int.mul_neg, Int.sub_mul]
    omega
/-- Firing keeps the degree. -/
theorem lap_sum {n : Nat} {es : List E} (hes : ∀ e ∈ es, EOk n e) (s : Int → Int) : sumN n (fun i => lap es s i) = 0 := by
  have := dirichlet hes (fun _ => 1) s
  simp only [Int.one_mul, Int.sub_self, Int.zero_mul] at this
  rw [this]
  exact sumE_zero (fun _ _ => rfl)
/-- q-reduced. -/
def Red (n : Nat) (es : List E) (q : Int) (d : Int → Int) : Prop :=
  (∀ v : Int, 0 ≤ v → v < n → v ≠ q → 0 ≤ d v) ∧ ∀ S : Int → Bool, S q = false → (∃ v : Int, 0 ≤ v ∧ v < n ∧ S v = true) → ∃ v : Int, 0 ≤ v ∧ v < n ∧ S v = true ∧ d v < lap es (ind S) v
/-- The greatest value. -/
theorem exists_max {n : Nat} (h : 0 < n) (s : Int → Int) : ∃ m : Nat, m < n ∧ ∀ v : Int, 0 ≤ v → v < n → s v ≤ s m := by
  induction n with
  | zero => omega
  | succ n ih =>
    by_cases h0 : n = 0
    · subst h0
      exact ⟨0, by omega, fun v h1 h2 => by have : v = ((0 : Nat) : Int) := by omega
                                            rw [this]; exact Int.le_refl _⟩
    · obtain ⟨m, hm, hmax⟩ := ih (by omega)
      by_cases hc : s m ≤ s n
      · refine ⟨n, by omega, fun v h1 h2 => ?_⟩
        by_cases e : v = n
        · subst e; exact Int.le_refl _
        · have := hmax v h1 (by omega)
          omega
      · refine ⟨m, by omega, fun v h1 h2 => ?_⟩
        by_cases e : v = n
        · subst e; omega
        · exact hmax v h1 (by omega)
/-- Where s is greatest, it takes at least as much as its greatest set does. -/
theorem lap_max {n : Int} {es : List E} (hes : ∀ e ∈ es, EOk n e) {s : Int → Int} {M : Int} (hM : ∀ v, 0 ≤ v → v < n → s v ≤ M) {v : Int} (hv : s v = M) : lap es (ind (fun x => decide (s x = M))) v ≤ lap es s v := by
  apply sumE_le
  intro e he
  have hk := hes e he
  unfold EOk at hk
  have h0 := hM e.f0 (by omega) (by omega)
  have h1 := hM e.f1 (by omega) (by omega)
  unfold lapE ind
  by_cases a : e.f0 = v
  · have a' : s e.f0 = M := by rw [a]; exact hv
    have b : ¬ e.f1 = v := by omega
    rw [if_pos a, if_pos a, if_neg b, if_neg b]
    by_cases c : s e.f1 = M
    · simp [a', c]
    · simp [a', c]; omega
  · rw [if_neg a, if_neg a]
    by_cases b : e.f1 = v
    · have b' : s e.f1 = M := by rw [b]; exact hv
      rw [if_pos b, if_pos b]
      by_cases c : s e.f0 = M
      · simp [b', c]
      · simp [b', c]; omega
    · rw [if_neg b, if_neg b]
      exact Int.le_refl _
theorem red_max {n : Nat} {es : List E} (hes : ∀ e ∈ es, EOk n e) {q : Int} (hq : 0 ≤ q ∧ q < n) {d d' s : Int → Int} (hd : Red n es q d) (hd' : ∀ v : Int, 0 ≤ v → v < n → v ≠ q → 0 ≤ d' v) (hs : ∀ v : Int, 0 ≤ v → v < n → d' v = d v - lap es s v) : ∀ v : Int, 0 ≤ v → v < n → s v ≤ s q := by
  obtain ⟨m, hm, hmax⟩ := exists_max (n := n) (by omega) s
  by_cases hc : s m ≤ s q
  · intro v h1 h2
    have := hmax v h1 h2
    omega
  · exfalso
    obtain ⟨v, h1, h2, hS, hlt⟩ := hd.2 (fun x => decide (s x = s m)) (by simp; omega) ⟨m, by omega, by omega, by simp⟩
    have hv : s v = s m := by simpa using hS
    have hle := lap_max hes hmax hv
    have hvq : v ≠ q := by rintro rfl; omega
    have := hd' v h1 h2 hvq
    rw [hs v h1 h2] at this
    omega
/-- Two reduced divisors of one class are one, and the script between them is constant. -/
theorem red_unique {n : Nat} {es : List E} (hes : ∀ e ∈ es, EOk n e) {q : Int} (hq : 0 ≤ q ∧ q < n) {d d' s : Int → Int} (hd : Red n es q d) (hd' : Red n es q d') (hs : ∀ v : Int, 0 ≤ v → v < n → d' v = d v - lap es s v) :
    (∀ v : Int, 0 ≤ v → v < n → s v = s q) ∧ ∀ v : Int, 0 ≤ v → v < n → d' v = d v := by
  have h1 := red_max hes hq hd hd'.1 hs
  have h2 := red_max (s := fun v => - s v) hes hq hd' hd.1 (fun v a b => by rw [lap_neg, hs v a b]; omega)
  have hc : ∀ v : Int, 0 ≤ v → v < n → s v = s q := fun v a b => by
    have := h1 v a b
    have := h2 v a b
    omega
  refine ⟨hc, fun v a b => ?_⟩
  rw [hs v a b, lap_const (c := s q) (fun e he => ?_)]
  · omega
  · have hk := hes e he
    unfold EOk at hk
    exact ⟨hc _ (by omega) (by omega), hc _ (by omega) (by omega)⟩
/-- Across an edge out of a set that is above, no more than what the set loses. -/
theorem cut_le {n : Nat} {es : List E} (hes : ∀ e ∈ es, EOk n e) {s : Int → Int} {t C : Int} (hC : sumN n (fun i => ind (fun v => decide (t ≤ s v)) i * lap es s i) ≤ C) {a b : Int} (hab : Adj es a b) (ha : t ≤ s a) (hb : s b < t) : s a - s b ≤ C := by
  rw [dirichlet hes] at hC
  obtain ⟨e, he, hx⟩ := hab
  have hnn : ∀ e ∈ es, 0 ≤ (ind (fun v => decide (t ≤ s v)) e.f0 - ind (fun v => decide (t ≤ s v)) e.f1) * (s e.f0 - s e.f1) := by
    intro e _
    unfold ind
    by_cases h0 : t ≤ s e.f0 <;> by_cases h1 : t ≤ s e.f1 <;> simp [h0, h1] <;> omega
  have h1 := sumE_term hnn he
  have h2 : s a - s b ≤ (ind (fun v => decide (t ≤ s v)) e.f0 - ind (fun v => decide (t ≤ s v)) e.f1) * (s e.f0 - s e.f1) := by
    unfold ind
    rcases hx with ⟨x0, x1⟩ | ⟨x0, x1⟩
    · subst x0; subst x1
      have h1 : ¬ t ≤ s e.f1 := by omega
      simp [ha, h1]
    · subst x0; subst x1
      have h1 : ¬ t ≤ s e.f0 := by omega
      simp [ha, h1]
      omega
  omega
/-- From a set that is not all and not closed an edge leads out. -/
theorem exists_cut {es : List E} {S : Int → Prop} {a b : Int} (hab : Conn es a b) (ha : ¬ S a) (hb : S b) : ∃ u w, Adj es u w ∧ S u ∧ ¬ S w := by
  induction hab with
  | refl => exact absurd hb ha
  | @tail x y _ hadj ih =>
    by_cases hx : S x
    · exact ih hx
    · exact ⟨y, x, hadj.symm, hb, hx⟩
def below (n : Nat) (s : Int → Int) (t : Int) : Nat := (List.range n).countP (fun i => decide (s (i : Nat) < t))
/-- A script that is 0 at q, all of whose upper sets lose no more than C, is at most 6 C. -/
theorem script_le {n : Nat} {es : List E} (hes : ∀ e ∈ es, EOk n e) (hj : Joined n es) {q : Int} (hq : 0 ≤ q ∧ q < n) {s : Int → Int} {C : Int} (hC0 : 0 ≤ C) (hsq : s q ≤ 0)
    (hC : ∀ t : Int, 0 < t → sumN n (fun i => ind (fun v => decide (t ≤ s v)) i * lap es s i) ≤ C) : ∀ v : Int, 0 ≤ v → v < n → s v ≤ n * C := by
  have key : ∀ k : Nat, ∀ v : Int, 0 ≤ v → v < n → below n s (s v) ≤ k → s v ≤ k * C := by
    intro k
    induction k with
    | zero =>
      intro v h0 h1 hk
      apply Classical.byContradiction
      intro hc
      have hpos : 0 < below n s (s v) := by
        unfold below
        rw [List.countP_pos_iff]
        refine ⟨q.toNat, List.mem_range.2 (by omega), ?_⟩
        have : ((q.toNat : Nat) : Int) = q := by omega
        rw [this]
        simp
        omega
      omega
    | succ k ih =>
      intro v h0 h1 hk
      by_cases hpos : s v ≤ 0
      · have : 0 ≤ ((k + 1 : Nat) : Int) * C := Int.mul_nonneg (by omega) hC0
        omega
      · have hqv : Conn es q v := ((hj q hq.1 hq.2).symm).trans (hj v h0 h1)
        obtain ⟨u, w, hadj, hu, hw⟩ := exists_cut (S := fun x => s v ≤ s x) hqv (by omega) (Int.le_refl _)
        have hcut := cut_le hes (hC (s v) (by omega)) hadj hu (by omega)
        have hw0 := EsOk.adj hes hadj
        have hlt : below n s (s w) < below n s (s v) := by
          refine countP_lt (fun x _ hx => ?_) ⟨w.toNat, List.mem_range.2 (by omega), ?_, ?_⟩
          · simp only [decide_eq_true_eq] at hx ⊢
            omega
          · have : ((w.toNat : Nat) : Int) = w := by omega
            rw [this]; simp
          · have : ((w.toNat : Nat) : Int) = w := by omega
            rw [this]; simp; omega
        have := ih w hw0.1 hw0.2 (by omega)
        rw [Int.natCast_succ, Int.add_mul, Int.one_mul]
        omega
  intro v h0 h1
  refine key n v h0 h1 ?_
  have := List.countP_le_length (p := fun i => decide (s ((i : Nat) : Int) < s v)) (l := List.range n)
  rw [List.length_range] at this
  exact this
theorem script_bd {n : Nat} {es : List E} (hes : ∀ e ∈ es, EOk n e) (hj : Joined n es) {q : Int} (hq : 0 ≤ q ∧ q < n) {s : Int → Int} {c : Int} (hc : 0 ≤ c) (hsq : s q ≤ 0)
    (h : ∀ v : Int, 0 ≤ v → v < n → 0 < s v → lap es s v ≤ c) : ∀ v : Int, 0 ≤ v → v < n → s v ≤ n * (n * c) := by
  refine script_le hes hj hq (Int.mul_nonneg (by omega) hc) hsq ?_
  intro t ht
  rw [← sumN_const]
  apply sumN_le
  intro i hi
  unfold ind
  by_cases hx : t ≤ s i
  · simp only [hx, decide_true, if_true, Int.one_mul]
    exact h i (by omega) (by omega) (by omega)
  · simp only [hx, decide_false, Int.zero_mul, Bool.false_eq_true, if_false]
    exact hc
def valE (v : Int) (e : E) : Int := if e.f0 = v ∨ e.f1 = v then 1 else 0
/-- The number of edges at a vertex. -/
def val (es : List E) (v : Int) : Int := sumE es (valE v)
def multE (a b : Int) (e : E) : Int := if (e.f0 = a ∧ e.f1 = b) ∨ (e.f0 = b ∧ e.f1 = a) then 1 else 0
/-- The number of edges between two vertices. -/
def mult (es : List E) (a b : Int) : Int := sumE es (multE a b)
theorem val_nonneg (es : List E) (v : Int) : 0 ≤ val es v := sumE_nonneg fun e _ => by unfold valE; split <;> omega
theorem mult_nonneg (es : List E) (a b : Int) : 0 ≤ mult es a b := sumE_nonneg fun e _ => by unfold multE; split <;> omega
theorem sumE_len {es : List E} {f : E → Int} (h : ∀ e ∈ es, f e ≤ 1) : sumE es f ≤ es.length := by
  induction es with
  | nil => simp [sumE]
  | cons e r ih =>
    rw [sumE_cons]
    have := ih (fun x hx => h x (List.mem_cons_of_mem _ hx))
    have := h e List.mem_cons_self
    simp only [List.length_cons]
    omega
theorem val_le (es : List E) (v : Int) : val es v ≤ es.length := sumE_len fun e _ => by unfold valE; split <;> omega
theorem mult_le (es : List E) (a b : Int) : mult es a b ≤ es.length := sumE_len fun e _ => by unfold multE; split <;> omega
/-- One vertex fires: it loses its valence. -/
theorem lap_one_self {n : Int} {es : List E} (hes : ∀ e ∈ es, EOk n e) (v t : Int) : lap es (one v t) v = t * val es v := by
  unfold lap val
  rw [← sumE_mul]
  apply sumE_congr
  intro e he
  have hk := hes e he
  unfold EOk at hk
  unfold lapE valE one
  by_cases a : e.f0 = v
  · have b : ¬ e.f1 = v := by omega
    simp [a, b]
  · by_cases b : e.f1 = v
    · simp [a, b]
    · simp [a, b]
/-- .. and another one gains along their edges. -/
theorem lap_one_ne {n : Int} {es : List E} (hes : ∀ e ∈ es, EOk n e) {v w : Int} (hvw : w ≠ v) (t : Int) : lap es (one v t) w = - (t * mult es v w) := by
  unfold lap mult
  rw [← sumE_mul, ← sumE_neg]
  apply sumE_congr
  intro e he
  have hk := hes e he
  unfold EOk at hk
  unfold lapE multE one
  by_cases a : e.f0 = w
  · have b : ¬ e.f1 = w := by omega
    have c : ¬ e.f0 = v := by omega
    by_cases x : e.f1 = v
    · simp [a, x]; omega
    · simp [a, b, x, hvw]
  · by_cases b : e.f1 = w
    · have c : ¬ e.f1 = v := by omega
      by_cases x : e.f0 = v
      · simp [a, b, x]; omega
      · simp [a, b, x, hvw]
    · simp [a, b]
theorem val_pos {n : Nat} {es : List E} (hj : Joined n es) {q v : Int} (hq : 0 ≤ q ∧ q < n) (hv : 0 ≤ v ∧ v < n) (hne : v ≠ q) : 0 < val es v := by
  have hc : Conn es q v := ((hj q hq.1 hq.2).symm).trans (hj v hv.1 hv.2)
  obtain ⟨u, w, ⟨e, he, hx⟩, hu, hw⟩ := exists_cut (S := fun x => x = v) hc (fun h => hne h.symm) rfl
  subst hu
  have h1 := sumE_term (f := valE u) (fun e _ => by unfold valE; split <;> omega) he
  have h2 : valE u e = 1 := by
    unfold valE
    rw [if_pos]
    rcases hx with ⟨a, _⟩ | ⟨_, b⟩
    · exact .inl a
    · exact .inr b
  unfold val
  omega
/-- s is reached from p by toppling unstable vertices other than q. -/
inductive Legal (n : Nat) (es : List E) (q : Int) (p : Int → Int) : (Int → Int) → Prop
  | zero : Legal n es q p (fun _ => 0)
  | step {s : Int → Int} {v : Int} : Legal n es q p s → 0 ≤ v → v < n → v ≠ q → val es v ≤ p v - lap es s v → Legal n es q p (fun w => s w + one v 1 w)
def Stable (n : Nat) (es : List E) (q : Int) (d : Int → Int) : Prop := ∀ v : Int, 0 ≤ v → v < n → v ≠ q → d v < val es v
theorem lap_le_zero {es : List E} {r : Int → Int} {v : Int} (h : ∀ w, 0 ≤ r w) (hv : r v = 0) : lap es r v ≤ 0 := by
  have := sumE_le (es := es) (f := lapE r v) (g := fun _ => 0) (fun e _ => by
    unfold lapE
    have h0 := h e.f0
    have h1 := h e.f1
    by_cases a : e.f0 = v
    · by_cases b : e.f1 = v
      · simp [a, b]
      · rw [if_pos a, if_neg b, a, hv]; omega
    · by_cases b : e.f1 = v
      · rw [if_neg a, if_pos b, b, hv]; omega
      · rw [if_neg a, if_neg b]; omega)
  rw [sumE_zero (fun _ _ => rfl)] at this
  exact this
theorem Legal.nonneg {n : Nat} {es : List E} {q : Int} {p s : Int → Int} (h : Legal n es q p s) : (∀ w, 0 ≤ s w) ∧ s q = 0 := by
  induction h with
  | zero => exact ⟨fun _ => Int.le_refl _, rfl⟩
  | @step s v _ _ _ hq _ ih =>
    refine ⟨fun w => ?_, ?_⟩
    · have := ih.1 w
      show 0 ≤ s w + one v 1 w
      unfold one
      split <;> omega
    · have := ih.2
      show s q + one v 1 q = 0
      unfold one
      rw [if_neg (fun x : q = v => hq x.symm)]
      omega
/-- The least action: a legal script is at most any script that stabilizes. -/
theorem Legal.least {n : Nat} {es : List E} {q : Int} {p s t : Int → Int} (h : Legal n es q p s) (ht : ∀ w, 0 ≤ t w) (hst : Stable n es q (fun v => p v - lap es t v)) : ∀ w, s w ≤ t w := by
  induction h with
  | zero => exact ht
  | @step s v _ h0 h1 hq hv ih =>
    intro w
    show s w + one v 1 w ≤ t w
    unfold one
    by_cases e : w = v
    · subst e
      rw [if_pos rfl]
      have := ih w
      by_cases hlt : s w < t w
      · omega
      · exfalso
        have hle := lap_le_zero (es := es) (r := fun x => t x - s x) (v := w) (fun x => by have := ih x; omega) (by omega)
        rw [lap_sub] at hle
        have := hst w h0 h1 hq
        simp only at this
        omega
    · rw [if_neg e]
      have := ih w
      omega
/-- Two legal scripts that stabilize are one. -/
theorem Legal.unique {n : Nat} {es : List E} {q : Int} {p s t : Int → Int} (hs : Legal n es q p s) (ht : Legal n es q p t) (ss : Stable n es q (fun v => p v - lap es s v)) (st : Stable n es q (fun v => p v - lap es t v)) : s = t := by
  funext w
  have := hs.least ht.nonneg.1 st w
  have := ht.least hs.nonneg.1 ss w
  omega
/-- Chips stay: nothing falls below zero. -/
theorem Legal.keeps {n : Nat} {es : List E} (hes : ∀ e ∈ es, EOk n e) {q : Int} {p s : Int → Int} (h : Legal n es q p s) (hp : ∀ v : Int, 0 ≤ v → v < n → v ≠ q → 0 ≤ p v) : ∀ v : Int, 0 ≤ v → v < n → v ≠ q → 0 ≤ p v - lap es s v := by
  induction h with
  | zero =>
    intro v h0 h1 hq
    have := hp v h0 h1 hq
    rw [lap_const (c := 0) (fun _ _ => ⟨rfl, rfl⟩)]
    omega
  | @step s u _ h0 h1 hq hv ih =>
    intro w k0 k1 kq
    rw [lap_add]
    have := ih w k0 k1 kq
    by_cases e : w = u
    · subst e
      rw [lap_one_self hes]
      omega
    · rw [lap_one_ne hes e]
      have := mult_nonneg es u w
      omega
/-- Several topplings of one vertex at once. -/
theorem Legal.many {n : Nat} {es : List E} (hes : ∀ e ∈ es, EOk n e) {q : Int} {p s : Int → Int} (h : Legal n es q p s) {v : Int} (h0 : 0 ≤ v) (h1 : v < n) (hq : v ≠ q) : ∀ k : Nat, k * val es v ≤ p v - lap es s v → Legal n es q p (fun w => s w + one v k w)
  | 0, _ => by
    have : (fun w => s w + one v ((0 : Nat) : Int) w) = s := by
      funext w
      unfold one
      split <;> simp
    rw [this]
    exact h
  | k + 1, hk => by
    have hv := val_nonneg es v
    rw [Int.natCast_succ, Int.add_mul] at hk
    have ih := Legal.many hes h h0 h1 hq k (by omega)
    have := Legal.step ih h0 h1 hq (by
      rw [lap_add, lap_one_self hes]
      omega)
    have e : (fun w => s w + one v ((k + 1 : Nat) : Int) w) = fun w => s w + one v (k : Int) w + one v 1 w := by
      funext w
      unfold one
      split <;> omega
    rw [e]
    exact this
theorem leE_trans {a b c : E} (h : leE a b) (k : leE b c) : leE a c := by
  unfold leE at *
  omega
theorem sorted_of_pw {es : List E} (h : es.Pairwise leE) : Sorted es := fun i hi => by
  rw [List.pairwise_iff_getElem] at h
  exact h i (i + 1) (by omega) hi (by omega)
theorem pw_of_sorted : ∀ {es : List E}, Sorted es → es.Pairwise leE
  | [], _ => List.Pairwise.nil
  | a :: r, h => by
    have hr : Sorted r := fun i hi => h (i + 1) (by simpa using hi)
    have ih := pw_of_sorted hr
    refine List.Pairwise.cons (fun b hb => ?_) ih
    cases r with
    | nil => cases hb
    | cons c s =>
      have h0 : leE a c := h 0 (by simp)
      rcases List.mem_cons.1 hb with rfl | hb
      · exact h0
      · exact leE_trans h0 (List.rel_of_pairwise_cons ih hb)
/-- Ahead of the first one that is greater. -/
def insE (e : E) : List E → List E
  | [] => [e]
  | x :: r => if x.f0 > e.f0 ∨ (x.f0 = e.f0 ∧ x.f1 > e.f1) then e :: x :: r else x :: insE e r
theorem insE_mem {e y : E} : ∀ {l : List E}, y ∈ insE e l ↔ y = e ∨ y ∈ l
  | [] => by simp [insE]
  | x :: r => by
    unfold insE
    split
    · simp
    · rw [List.mem_cons, insE_mem (l := r), List.mem_cons]
      constructor
      · rintro (h | h | h)
        · exact .inr (.inl h)
        · exact .inl h
        · exact .inr (.inr h)
      · rintro (h | h | h)
        · exact .inr (.inl h)
        · exact .inl h
        · exact .inr (.inr h)
theorem insE_len (e : E) : ∀ (l : List E), (insE e l).length = l.length + 1
  | [] => rfl
  | x :: r => by
    unfold insE
    split
    · simp
    · simp [insE_len e r]
theorem insE_pw {e : E} : ∀ {l : List E}, l.Pairwise leE → (insE e l).Pairwise leE
  | [], _ => by simp [insE]
  | x :: r, h => by
    unfold insE
    have hx := List.pairwise_cons.1 h
    split
    · rename_i hc
      refine List.Pairwise.cons (fun b hb => ?_) h
      have h1 : leE e x := by unfold leE; omega
      rcases List.mem_cons.1 hb with rfl | hb
      · exact h1
      · exact leE_trans h1 (hx.1 b hb)
    · rename_i hc
      refine List.Pairwise.cons (fun b hb => ?_) (insE_pw hx.2)
      rcases insE_mem.1 hb with rfl | hb
      · unfold leE; omega
      · exact hx.1 b hb
theorem gOk_ins {n : Int} {es : List E} (h : GOk n es) (hl : es.length ≠ 12) {e : E} (he : EOk n e) : GOk n (insE e es) := by
  obtain ⟨⟨h1, h2, h3, h4⟩, h5, h6⟩ := h
  refine ⟨⟨h1, h2, by rw [insE_len]; omega, fun x hx => ?_⟩, sorted_of_pw (insE_pw (pw_of_sorted h5)), fun v h0 h1 => (h6 v h0 h1).sub fun x hx => insE_mem.2 (.inr hx)⟩
  rcases insE_mem.1 hx with rfl | hx
  · exact he
  · exact h4 x hx
def hRow (t : List E) (n a : Nat) : List E := (List.range n).flatMap fun b => if a < b then List.replicate (mult t a b).toNat ⟨a, b⟩ else []
def hEdges (n : Nat) (t : List E) : List E := (List.range n).flatMap (hRow t n)
theorem hRow_mem {t : List E} {n a : Nat} {e : E} : e ∈ hRow t n a ↔ ∃ b, b < n ∧ a < b ∧ 0 < mult t a b ∧ e = ⟨a, b⟩ := by
  unfold hRow
  rw [List.mem_flatMap]
  constructor
  · rintro ⟨b, hb, he⟩
    split at he
    · rename_i hab
      obtain ⟨h1, h2⟩ := List.mem_replicate.1 he
      exact ⟨b, List.mem_range.1 hb, hab, by omega, h2⟩
    · cases he
  · rintro ⟨b, hb, hab, hm, rfl⟩
    refine ⟨b, List.mem_range.2 hb, ?_⟩
    rw [if_pos hab]
    exact List.mem_replicate.2 ⟨by omega, rfl⟩
theorem hEdges_mem {t : List E} {n : Nat} {e : E} : e ∈ hEdges n t ↔ ∃ a b : Nat, a < b ∧ b < n ∧ 0 < mult t a b ∧ e = ⟨a, b⟩ := by
  unfold hEdges
  rw [List.mem_flatMap]
  constructor
  · rintro ⟨a, _, h⟩
    obtain ⟨b, h1, h2, h3, h4⟩ := hRow_mem.1 h
    exact ⟨a, b, h2, h1, h3, h4⟩
  · rintro ⟨a, b, h1, h2, h3, h4⟩
    exact ⟨a, List.mem_range.2 (by omega), hRow_mem.2 ⟨b, h2, h1, h3, h4⟩⟩
theorem hEdges_ok {t : List E} {n : Nat} : ∀ e ∈ hEdges n t, EOk (n : Int) e := by
  intro e he
  obtain ⟨a, b, h1, h2, _, rfl⟩ := hEdges_mem.1 he
  unfold EOk
  simp only
  omega
theorem hEdges_pw (n : Nat) (t : List E) : (hEdges n t).Pairwise leE := by
  unfold hEdges
  rw [List.pairwise_flatMap]
  refine ⟨fun a _ => ?_, ?_⟩
  · unfold hRow
    rw [List.pairwise_flatMap]
    refine ⟨fun b _ => ?_, ?_⟩
    · split
      · refine List.pairwise_replicate.2 (.inr ?_)
        unfold leE
        simp
      · exact List.Pairwise.nil
    · refine List.pairwise_lt_range.imp ?_
      intro b c hbc x hx y hy
      split at hx
      · split at hy
        · rw [List.eq_of_mem_replicate hx, List.eq_of_mem_replicate hy]
          exact .inr ⟨rfl, by show (b : Int) ≤ (c : Int); omega⟩
        · cases hy
      · cases hx
  · refine List.pairwise_lt_range.imp ?_
    intro a c hac x hx y hy
    obtain ⟨_, _, _, _, rfl⟩ := hRow_mem.1 hx
    obtain ⟨_, _, _, _, rfl⟩ := hRow_mem.1 hy
    unfold leE
    simp only
    omega
theorem len_flatMap (f : Nat → List E) : ∀ n : Nat, (((List.range n).flatMap f).length : Int) = sumN n (fun i => ((f i).length : Int))
  | 0 => rfl
  | n + 1 => by
    rw [List.range_succ, List.flatMap_append, List.length_append]
    simp only [sumN, List.flatMap_cons, List.flatMap_nil, List.append_nil]
    rw [← len_flatMap f n]
    omega
theorem hEdges_len {n : Nat} : ∀ {t : List E}, (∀ e ∈ t, EOk (n : Int) e) → (hEdges n t).length = t.length := by
  have key : ∀ t : List E, ((hEdges n t).length : Int) = sumN n (fun a => sumN n (fun b => if a < b then mult t (a : Int) (b : Int) else 0)) := by
    intro t
    unfold hEdges
    rw [len_flatMap]
    apply sumN_congr
    intro a _
    unfold hRow
    rw [len_flatMap]
    apply sumN_congr
    intro b _
    have := mult_nonneg t (a : Int) (b : Int)
    split
    · rw [List.length_replicate]; omega
    · rfl
  intro t
  induction t with
  | nil =>
    intro _
    have := key []
    have hz : sumN n (fun a => sumN n (fun b => if a < b then mult [] (a : Int) (b : Int) else 0)) = 0 := by
      refine (sumN_congr (g := fun _ => 0) fun a _ => ?_).trans (sumN_zero n)
      refine (sumN_congr (g := fun _ => 0) fun b _ => ?_).trans (sumN_zero n)
      split <;> rfl
    rw [hz] at this
    simp only [List.length_nil]
    omega
  | cons e r ih =>
    intro h
    have ih := ih fun x hx => h x (List.mem_cons_of_mem _ hx)
    have he := h e List.mem_cons_self
    unfold EOk at he
    have k1 := key (e :: r)
    have k2 := key r
    have hs : sumN n (fun a => sumN n (fun b => if a < b then mult (e :: r) (a : Int) (b : Int) else 0)) = 1 + sumN n (fun a => sumN n (fun b => if a < b then mult r (a : Int) (b : Int) else 0)) := by
      have h1 : sumN n (fun a => sumN n (fun b => if a = e.f0.toNat ∧ b = e.f1.toNat then (1 : Int) else 0)) = 1 := by
        rw [sumN_congr (g := fun a => if a = e.f0.toNat then (1 : Int) else 0) (fun a _ => ?_), sumN_one e.f0.toNat (by omega)]
        by_cases ha : a = e.f0.toNat
        · rw [if_pos ha, sumN_congr (g := fun b => if b = e.f1.toNat then (1 : Int) else 0) (fun b _ => by simp [ha]), sumN_one e.f1.toNat (by omega)]
        · rw [if_neg ha, sumN_congr (g := fun _ => (0 : Int)) (fun b _ => by rw [if_neg (fun x => ha x.1)]), sumN_zero]
      rw [← h1, ← sumN_add]
      apply sumN_congr
      intro a _
      rw [← sumN_add]
      apply sumN_congr
      intro b _
      have hm : mult (e :: r) (a : Int) (b : Int) = multE (a : Int) (b : Int) e + mult r (a : Int) (b : Int) := sumE_cons _ _ _
      rw [hm]
      unfold multE
      by_cases hab : a < b
      · rw [if_pos hab, if_pos hab]
        by_cases hc : a = e.f0.toNat ∧ b = e.f1.toNat
        · rw [if_pos hc, if_pos (.inl ⟨by omega, by omega⟩)]
        · rw [if_neg hc, if_neg (by omega)]
      · rw [if_neg hab, if_neg hab, if_neg (by omega)]
        rfl
    rw [List.length_cons]
    omega
/-- The edges (a, 1), (b, 2), .. of a tree, each from a lesser vertex. -/
structure TreeE (v : Nat) (t : List E) : Prop where
  ok : ∀ e ∈ t, EOk (v : Int) e
  len : t.length + 1 = v
  up : ∀ w : Nat, 0 < w → w < v → ∃ a : Nat, a < w ∧ (⟨(a : Int), (w : Int)⟩ : E) ∈ t
theorem TreeE.start : TreeE 1 [] := ⟨fun e he => (by cases he), rfl, fun w h0 h1 => by omega⟩
theorem TreeE.next {v : Nat} {t : List E} (h : TreeE v t) {a : Int} (h0 : 0 ≤ a) (h1 : a < v) : TreeE (v + 1) (t ++ [⟨a, v⟩]) where
  ok := fun e he => by
    rcases List.mem_append.1 he with he | he
    · have := h.ok e he
      unfold EOk at *
      omega
    · rw [List.mem_singleton.1 he]
      unfold EOk
      simp only
      omega
  len := by rw [List.length_append]; simp; exact h.len
  up := fun w w0 w1 => by
    by_cases c : w < v
    · obtain ⟨b, hb, hm⟩ := h.up w w0 c
      exact ⟨b, hb, List.mem_append_left _ hm⟩
    · obtain rfl : w = v := by omega
      refine ⟨a.toNat, by omega, List.mem_append_right _ ?_⟩
      have e : ((a.toNat : Nat) : Int) = a := by omega
      rw [e]
      exact List.mem_singleton.2 rfl
theorem TreeE.gOk {n : Nat} {t : List E} (h : TreeE n t) (hn : n ≤ 6) : GOk (n : Int) (hEdges n t) := by
  have hl := hEdges_len h.ok
  have hlen := h.len
  refine ⟨⟨by omega, by omega, by omega, hEdges_ok⟩, sorted_of_pw (hEdges_pw n t), ?_⟩
  have key : ∀ w : Nat, w < n → Conn (hEdges n t) 0 (w : Int) := by
    intro w
    induction w using Nat.strongRecOn with
    | _ w ih =>
      intro hw
      by_cases w0 : w = 0
      · subst w0; exact .refl
      · obtain ⟨a, ha, hm⟩ := h.up w (by omega) hw
        have hc := ih a ha (by omega)
        have hmem : (⟨(a : Int), (w : Int)⟩ : E) ∈ hEdges n t := by
          refine hEdges_mem.2 ⟨a, w, ha, hw, ?_, rfl⟩
          have h1 := sumE_term (es := t) (f := multE (a : Int) (w : Int)) (fun e _ => by unfold multE; split <;> omega) hm
          have h2 : multE (a : Int) (w : Int) ⟨(a : Int), (w : Int)⟩ = 1 := by unfold multE; simp
          unfold mult
          omega
        exact hc.tail ⟨_, hmem, .inl ⟨rfl, rfl⟩⟩
  intro v h0 h1
  obtain ⟨w, rfl⟩ := Int.eq_ofNat_of_zero_le h0
  exact key w (by omega)
end Go.Proofs.Ytgobnfeahffnaaa.Cf
end

section
namespace Go.Proofs.Ytgobnfeahffnaaa.P
open Go.RowKit Go.Proofs.YtgobnfeahffnaaaW.PrintWords Go.Proofs.YtgobnfeahffnaaaW.PrintLast Go.Proofs.YtgobnfeahffnaaaW.PrintMore
attribute [local go_sem] max2_int min2_int max_two min_two max_three min_three max_four min_four
set_option linter.unusedVariables false
set_option linter.unusedSimpArgs false
def impl_isVertex.f (a0_0 : Int) (l0_1 : List (S83)) (a1 : Int) : Option (Bool) := (impl_GraphOk.f a0_0 l0_1).bind fun t102 => (if t102 = true then ((impl_within.f a1 0 (wrap64 (a0_0 - 1))).bind fun t103 => (some t103)) else (some false))
end Go.Proofs.Ytgobnfeahffnaaa.P
end

section
namespace Go.Proofs.Ytgobnfeahffnaaa.Cf
set_option linter.unusedVariables false
set_option linter.unusedSimpArgs false
open Go.RowKit Go.Proofs.YtgobnfeahffnaaaW.PrintWords Go.Proofs.Ytgobnfeahffnaaa.P
theorem forall_drop' {α : Type} {l : List α} {P : α → Prop} {i : Nat} (h : i < l.length) : (∀ e ∈ l.drop i, P e) ↔ (P l[i] ∧ ∀ e ∈ l.drop (i + 1), P e) := by
  rw [List.drop_eq_getElem_cons h]
  simp only [List.mem_cons, forall_eq_or_imp]
theorem implGraph (n : Int) (es : List E) : impl_GraphOk.f n es = some (gOk n es) := rfl
theorem allWithin_l0 (a b : Int) (l : List Int) (hl : l.length ≤ 1048576) : ∀ (d i : Nat), i + d = l.length → Ep (fun k => impl_allWithin.l0 k a b l (l.length : Int) (i : Int)) (· = decide (∀ x ∈ l.drop i, a ≤ x ∧ x ≤ b)) := by
  intro d
  induction d with
  | zero =>
    intro i hi
    refine Ep.up ?_
    simp only [impl_allWithin.l0]
    refine Ep.neg (by omega) (Ep.now ?_)
    rw [List.drop_of_length_le (by omega)]
    simp
  | succ d ih =>
    intro i hi
    have hlt : i < l.length := by omega
    refine Ep.up ?_
    simp only [impl_allWithin.l0]
    refine Ep.pos (by omega) (Ep.pos (by omega) (Ep.pos (by omega) ?_))
    rw [rd_get hlt, wrap_succ (by omega)]
    refine Ep.bind0 (within_eq _ _ _) ?_
    refine Ep.ite (fun h => ?_) (fun h => Ep.now ?_)
    · have h' : a ≤ l[i] ∧ l[i] ≤ b := by simpa using h
      refine (ih (i + 1) (by omega)).mono ?_
      rintro _ rfl
      simp only [forall_drop' hlt, h', true_and]
    · have h' : ¬ (a ≤ l[i] ∧ l[i] ≤ b) := by simpa using h
      simp only [forall_drop' hlt, h', false_and, decide_false]
theorem allWithin_ok (l : List Int) (a b : Int) (hl : l.length ≤ 1048576) : Ep (fun k => impl_allWithin.f k l a b) (· = decide (∀ x ∈ l, a ≤ x ∧ x ≤ b)) := by
  have := allWithin_l0 a b l hl l.length 0 (by omega)
  simp only [impl_allWithin.f]
  rw [List.drop_zero] at this
  exact this
/-- The edge with this index is at v. -/
def At (es : List E) (k v : Int) : Prop := ∃ j : Nat, k = j ∧ ∃ h : j < es.length, es[j].f0 = v ∨ es[j].f1 = v
open Classical in
noncomputable def atB (es : List E) (k v : Int) : Bool := decide (At es k v)
theorem atB_iff {es : List E} {k v : Int} : atB es k v = true ↔ At es k v := by unfold atB; simp
theorem At.of {es : List E} {j : Nat} {v : Int} (hj : j < es.length) : At es (j : Int) v ↔ (es[j].f0 = v ∨ es[j].f1 = v) := by
  constructor
  · rintro ⟨i, hi, h, hx⟩
    have : i = j := by omega
    subst this
    exact hx
  · intro h
    exact ⟨j, rfl, hj, h⟩
theorem At.range {es : List E} {k v : Int} (h : At es k v) : 0 ≤ k ∧ k < es.length := by
  obtain ⟨j, rfl, hj, _⟩ := h
  omega
end Go.Proofs.Ytgobnfeahffnaaa.Cf
end

section
namespace Go.Proofs.Ytgobnfeahffnaaa.P
open Go.RowKit Go.Proofs.YtgobnfeahffnaaaW.PrintWords Go.Proofs.YtgobnfeahffnaaaW.PrintLast Go.Proofs.YtgobnfeahffnaaaW.PrintMore
attribute [local go_sem] max2_int min2_int max_two min_two max_three min_three max_four min_four
set_option linter.unusedVariables false
set_option linter.unusedSimpArgs false
mutual
def spec_DivisorOk.j0 : Nat → List Int → Bool → Option (Bool)
 | 0, _, _ => none
 | k + 1, x1, x16 => if x16 = true then (some false) else (spec_DivisorOk.l0 k x1 (x1.length : Int) 0)
def spec_DivisorOk.l0 : Nat → List Int → Int → Int → Option (Bool)
 | 0, _, _, _ => none
 | k + 1, x17, x18, x19 => if x19 < x18 then (if 0 ≤ x19 then (if x19 < (x17.length : Int) then ((spec_l01In.f (rd x17 x19) (-60) 60).bind fun t104 => (if t104 = true then (spec_DivisorOk.l0 k x17 x18 (wrap64 (x19 + 1))) else (some false))) else (none)) else (none)) else (some true)
end
def spec_DivisorOk.f (k : Nat) (a0_0 : Int) (l0_1 : List (S83)) (l1 : List Int) : Option (Bool) := (spec_GraphOk.f k a0_0 l0_1).bind fun t102 => (if t102 = true then (spec_DivisorOk.j0 k l1 ((l1.length : Int) != a0_0)) else (spec_DivisorOk.j0 k l1 true))
theorem spec_DivisorOk.mono_l : ∀ k, (∀ y0 y1, LeO (spec_DivisorOk.j0 k y0 y1) (spec_DivisorOk.j0 (k + 1) y0 y1)) ∧ (∀ y0 y1 y2, LeO (spec_DivisorOk.l0 k y0 y1 y2) (spec_DivisorOk.l0 (k + 1) y0 y1 y2))
 | 0 => ⟨fun _ _ r h => by simp [spec_DivisorOk.j0] at h, fun _ _ _ r h => by simp [spec_DivisorOk.l0] at h⟩
 | k + 1 => by
  obtain ⟨ih0, ih1⟩ := spec_DivisorOk.mono_l k
  refine ⟨?_, ?_⟩
  ·intro y0 y1
   unfold spec_DivisorOk.j0
   exact zm8
  ·intro y0 y1 y2
   unfold spec_DivisorOk.l0
   exact zm8
theorem spec_DivisorOk.mono : ∀ a0 a1 a2 k, LeO (spec_DivisorOk.f k a0 a1 a2) (spec_DivisorOk.f (k + 1) a0 a1 a2) := by
 intro a0 a1 a2 k; obtain ⟨ih0, ih1⟩ := spec_DivisorOk.mono_l k; unfold spec_DivisorOk.f; exact zm8
end Go.Proofs.Ytgobnfeahffnaaa.P
end

section
namespace Go.Proofs.Ytgobnfeahffnaaa.P
open Go.RowKit Go.Proofs.YtgobnfeahffnaaaW.PrintWords Go.Proofs.YtgobnfeahffnaaaW.PrintLast Go.Proofs.YtgobnfeahffnaaaW.PrintMore
attribute [local go_sem] max2_int min2_int max_two min_two max_three min_three max_four min_four
set_option linter.unusedVariables false
set_option linter.unusedSimpArgs false
def spec_IsEffective.l0 : Nat → List Int → Int → Int → Option (Bool)
 | 0, _, _, _ => none
 | k + 1, x5, x6, x7 => if x7 < x6 then (if 0 ≤ x7 then (if x7 < (x5.length : Int) then (if (rd x5 x7) < 0 then (some false) else (spec_IsEffective.l0 k x5 x6 (wrap64 (x7 + 1)))) else (none)) else (none)) else (some true)
def spec_IsEffective.f (k : Nat) (l0 : List Int) : Option (Bool) := spec_IsEffective.l0 k l0 (l0.length : Int) 0
theorem spec_IsEffective.mono_l : ∀ k, (∀ y0 y1 y2, LeO (spec_IsEffective.l0 k y0 y1 y2) (spec_IsEffective.l0 (k + 1) y0 y1 y2))
 | 0 => fun _ _ _ r h => by simp [spec_IsEffective.l0] at h
 | k + 1 => by
  have ih0 := spec_IsEffective.mono_l k
  ·intro y0 y1 y2
   unfold spec_IsEffective.l0
   exact zm0
theorem spec_IsEffective.mono : ∀ a0 k, LeO (spec_IsEffective.f k a0) (spec_IsEffective.f (k + 1) a0) := by
 intro a0 k; have ih0 := spec_IsEffective.mono_l k; unfold spec_IsEffective.f; exact zm0
def spec_PileOk.f (k : Nat) (a0_0 : Int) (l0_1 : List (S83)) (l1 : List Int) (a2 : Int) : Option (Bool) := (spec_DivisorOk.f k a0_0 l0_1 l1).bind fun t102 => (if t102 = true then ((spec_l01In.f a2 0 (wrap64 (a0_0 - 1))).bind fun t103 => (if t103 = true then ((spec_IsEffective.f k l1).bind fun t104 => (if t104 = true then (if 0 ≤ a2 then (if a2 < (l1.length : Int) then (some ((rd l1 a2) == 0)) else (none)) else (none)) else (some false))) else (some false))) else (some false))
theorem spec_PileOk.mono : ∀ a0 a1 a2 a3 k, LeO (spec_PileOk.f k a0 a1 a2 a3) (spec_PileOk.f (k + 1) a0 a1 a2 a3) := by
 intro a0 a1 a2 a3 k; unfold spec_PileOk.f; repeat' first | (with_reducible apply spec_DivisorOk.mono) | (with_reducible apply spec_IsEffective.mono) | (with_reducible exact LeO.refl _) | (with_reducible exact LeO.none _) | (with_reducible refine LeO.ite ?_ ?_) | (with_reducible refine LeO.bind ?_ (fun _ => ?_)) | apply spec_DivisorOk.mono | apply spec_IsEffective.mono | exact LeO.none _ | refine LeO.ite ?_ ?_ | refine LeO.bind ?_ (fun _ => ?_)
def spec_Valence.l0 : Nat → Int → Int → List (S83) → Int → Int → Option (Int)
 | 0, _, _, _, _, _ => none
 | k + 1, x1, x5, x13, x14, x15 => if x15 < x14 then (if 0 ≤ x15 then (if x15 < (x13.length : Int) then (if ((rd_T83 x13 x15).f0) = x1 then (spec_Valence.l0 k x1 (wrap64 (x5 + 1)) x13 x14 (wrap64 (x15 + 1))) else (if ((rd_T83 x13 x15).f1) = x1 then (spec_Valence.l0 k x1 (wrap64 (x5 + 1)) x13 x14 (wrap64 (x15 + 1))) else (spec_Valence.l0 k x1 x5 x13 x14 (wrap64 (x15 + 1))))) else (none)) else (none)) else (some x5)
def spec_Valence.f (k : Nat) (a0_0 : Int) (l0_1 : List (S83)) (a1 : Int) : Option (Int) := (spec_l02Vert.f a0_0 l0_1 a1).bind fun t102 => (if t102 = true then (spec_Valence.l0 k a1 0 l0_1 (l0_1.length : Int) 0) else (some 0))
theorem spec_Valence.mono_l : ∀ k, (∀ y0 y1 y2 y3 y4, LeO (spec_Valence.l0 k y0 y1 y2 y3 y4) (spec_Valence.l0 (k + 1) y0 y1 y2 y3 y4))
 | 0 => fun _ _ _ _ _ r h => by simp [spec_Valence.l0] at h
 | k + 1 => by
  have ih0 := spec_Valence.mono_l k
  ·intro y0 y1 y2 y3 y4
   unfold spec_Valence.l0
   exact zm0
theorem spec_Valence.mono : ∀ a0 a1 a2 k, LeO (spec_Valence.f k a0 a1 a2) (spec_Valence.f (k + 1) a0 a1 a2) := by
 intro a0 a1 a2 k; have ih0 := spec_Valence.mono_l k; unfold spec_Valence.f; exact zm0
end Go.Proofs.Ytgobnfeahffnaaa.P
end

section
namespace Go.Proofs.Ytgobnfeahffnaaa.Cf
set_option linter.unusedVariables false
set_option linter.unusedSimpArgs false
open Go.RowKit Go.Proofs.YtgobnfeahffnaaaW.PrintWords Go.Proofs.Ytgobnfeahffnaaa.P
/-- A divisor. -/
def dOk (n : Int) (es : List E) (d : List Int) : Bool := gOk n es && (decide ((d.length : Int) = n) && decide (∀ x ∈ d, -60 ≤ x ∧ x ≤ 60))
theorem dOk_iff {n : Int} {es : List E} {d : List Int} : dOk n es d = true ↔ GOk n es ∧ (d.length : Int) = n ∧ ∀ x ∈ d, -60 ≤ x ∧ x ≤ 60 := by
  unfold dOk
  simp only [Bool.and_eq_true, decide_eq_true_eq, gOk_iff]
theorem implDiv (n : Int) (es : List E) (d : List Int) (hl : d.length ≤ 1048576) : Ep (fun k => impl_DivisorOk.f k n es d) (· = dOk n es d) := by
  simp only [impl_DivisorOk.f, dOk]
  refine Ep.bind0 (implGraph n es) (Ep.ite (fun hg => ?_) (fun hg => Ep.now ?_))
  · refine Ep.ite (fun h => ?_) (fun h => Ep.now ?_)
    · refine Ep.bind (allWithin_ok d (-60) 60 hl) ?_
      rintro _ rfl
      refine Ep.now ?_
      rw [hg]
      simp only [h, decide_true, Bool.true_and]
    · simp [h]
  · have : gOk n es = false := by simpa using hg
    simp [this]
theorem implEff_l0 (o : List Int) (hl : o.length ≤ 1048576) : ∀ (d i : Nat), i + d = o.length → Ep (fun k => impl_IsEffective.l0 k o (o.length : Int) (i : Int)) (· = decide (∀ x ∈ o.drop i, 0 ≤ x)) := by
  intro d
  induction d with
  | zero =>
    intro i hi
    refine Ep.up ?_
    simp only [impl_IsEffective.l0]
    refine Ep.neg (by omega) (Ep.now ?_)
    rw [List.drop_of_length_le (by omega)]
    simp
  | succ d ih =>
    intro i hi
    have hlt : i < o.length := by omega
    refine Ep.up ?_
    simp only [impl_IsEffective.l0]
    refine Ep.pos (by omega) (Ep.pos (by omega) (Ep.pos (by omega) ?_))
    rw [rd_get hlt, wrap_succ (by omega)]
    refine Ep.ite (fun h => Ep.now ?_) (fun h => ?_)
    · have h' : ¬ 0 ≤ o[i] := by omega
      simp only [forall_drop' hlt, h', false_and, decide_false]
    · have h' : 0 ≤ o[i] := by omega
      refine (ih (i + 1) (by omega)).mono ?_
      rintro _ rfl
      simp only [forall_drop' hlt, h', true_and]
theorem implEff (d : List Int) (hl : d.length ≤ 1048576) : Ep (fun k => impl_IsEffective.f k d) (· = decide (∀ x ∈ d, 0 ≤ x)) := by
  have := implEff_l0 d hl d.length 0 (by omega)
  simp only [impl_IsEffective.f]
  rw [List.drop_zero] at this
  exact this
/-- A configuration. -/
def pOk (n : Int) (es : List E) (p : List Int) (q : Int) : Bool := dOk n es p && (decide (0 ≤ q ∧ q < n) && (decide (∀ x ∈ p, 0 ≤ x) && decide (rd p q = 0)))
theorem pOk_iff {n : Int} {es : List E} {p : List Int} {q : Int} : pOk n es p q = true ↔ (GOk n es ∧ (p.length : Int) = n ∧ ∀ x ∈ p, -60 ≤ x ∧ x ≤ 60) ∧ (0 ≤ q ∧ q < n) ∧ (∀ x ∈ p, 0 ≤ x) ∧ rd p q = 0 := by
  unfold pOk
  simp only [Bool.and_eq_true, decide_eq_true_eq, dOk_iff]
theorem implPile (n : Int) (es : List E) (p : List Int) (q : Int) (hl : p.length ≤ 1048576) : Ep (fun k => impl_PileOk.f k n es p q) (· = pOk n es p q) := by
  simp only [impl_PileOk.f, pOk]
  refine Ep.bind (implDiv n es p hl) ?_
  rintro _ rfl
  refine Ep.ite (fun hd => ?_) (fun hd => Ep.now ?_)
  · obtain ⟨⟨⟨h1, h6, _, _⟩, _, _⟩, hpl, _⟩ := dOk_iff.1 hd
    rw [wrap_id (x := n - 1) (by omega) (by omega)]
    refine Ep.bind0 (within_eq _ _ _) ?_
    have hq : (0 ≤ q ∧ q ≤ n - 1) ↔ (0 ≤ q ∧ q < n) := by omega
    simp only [hq]
    refine Ep.ite (fun h => ?_) (fun h => Ep.now ?_)
    · refine Ep.bind (implEff p hl) ?_
      rintro _ rfl
      have h' : 0 ≤ q ∧ q < n := by simpa using h
      refine Ep.ite (fun he => Ep.pos h'.1 (Ep.pos (by omega) (Ep.now ?_))) (fun he => Ep.now ?_)
      · rw [hd, h, he]
        rfl
      · have he' : decide (∀ x ∈ p, 0 ≤ x) = false := by simpa using he
        rw [he']
        simp
    · have h' : decide (0 ≤ q ∧ q < n) = false := by simpa using h
      rw [h']
      simp
  · have hd' : dOk n es p = false := by simpa using hd
    rw [hd']
    rfl
/-- The valence, 0 where there is no such vertex. -/
def valG (n : Int) (es : List E) (v : Int) : Int := if 0 ≤ v ∧ v < n then val es v else 0
theorem val_drop {es : List E} {i : Nat} (h : i < es.length) (v : Int) : val (es.drop i) v = valE v es[i] + val (es.drop (i + 1)) v := by
  rw [List.drop_eq_getElem_cons h]
  exact sumE_cons _ _ _
theorem implVal_loop (v : Int) (es : List E) (hl : es.length ≤ 1048576) : ∀ (d i : Nat) (a : Int), i + d = es.length → 0 ≤ a → a ≤ i → Ep (fun k => impl_Valence.l0 k v a es (es.length : Int) (i : Int)) (· = a + val (es.drop i) v) := by
  intro d
  induction d with
  | zero =>
    intro i a hi h0 ha
    refine Ep.up ?_
    simp only [impl_Valence.l0]
    refine Ep.neg (by omega) (Ep.now ?_)
    rw [List.drop_of_length_le (by omega)]
    simp [val, sumE]
  | succ d ih =>
    intro i a hi h0 ha
    have hlt : i < es.length := by omega
    refine Ep.up ?_
    simp only [impl_Valence.l0]
    refine Ep.pos (by omega) (Ep.pos (by omega) (Ep.pos (by omega) ?_))
    rw [rdE_get hlt, wrap_succ (by omega), wrap_id (x := a + 1) (by omega) (by omega), val_drop hlt]
    refine Ep.ite (fun h => ?_) (fun h => Ep.ite (fun h2 => ?_) (fun h2 => ?_))
    · refine (ih (i + 1) (a + 1) (by omega) (by omega) (by omega)).mono ?_
      rintro _ rfl
      unfold valE
      rw [if_pos (.inl h)]
      omega
    · refine (ih (i + 1) (a + 1) (by omega) (by omega) (by omega)).mono ?_
      rintro _ rfl
      unfold valE
      rw [if_pos (.inr h2)]
      omega
    · refine (ih (i + 1) a (by omega) h0 (by omega)).mono ?_
      rintro _ rfl
      unfold valE
      rw [if_neg (by rintro (x | x); exact h x; exact h2 x)]
      omega
theorem implValence (n : Int) (es : List E) (v : Int) (hl : es.length ≤ 1048576) : Ep (fun k => impl_Valence.f k n es v) (· = valG n es v) := by
  simp only [impl_Valence.f, valG]
  refine Ep.ite (fun h => ?_) (fun h => ?_)
  · refine Ep.up ?_
    simp only [impl_Valence.j0]
    refine Ep.pos trivial (Ep.now ?_)
    rw [if_neg (by omega)]
  · refine Ep.up ?_
    simp only [impl_Valence.j0]
    refine Ep.ite (fun h2 => Ep.now ?_) (fun h2 => ?_)
    · have : v ≥ n := by simpa using h2
      rw [if_neg (by omega)]
    · have : ¬ v ≥ n := by simpa using h2
      refine (implVal_loop v es hl es.length 0 0 (by omega) (by omega) (by omega)).mono ?_
      rintro _ rfl
      rw [if_pos (by omega), List.drop_zero]
      omega
end Go.Proofs.Ytgobnfeahffnaaa.Cf
end

section
namespace Go.Proofs.Ytgobnfeahffnaaa.P
open Go.RowKit Go.Proofs.YtgobnfeahffnaaaW.PrintWords Go.Proofs.YtgobnfeahffnaaaW.PrintLast Go.Proofs.YtgobnfeahffnaaaW.PrintMore
attribute [local go_sem] max2_int min2_int max_two min_two max_three min_three max_four min_four
set_option linter.unusedVariables false
set_option linter.unusedSimpArgs false
def spec_l10Unstable.l0 : Nat → Int → List Int → Int → Int → Int → List (S83) → Option (Int)
 | 0, _, _, _, _, _, _ => none
 | k + 1, x2, x9, x10, x11, x102000, x102001 => if x11 < x10 then (if 0 ≤ x11 then (if x11 < (x9.length : Int) then (if x11 = x2 then (spec_l10Unstable.l0 k x2 x9 x10 (wrap64 (x11 + 1)) x102000 x102001) else ((spec_Valence.f k x102000 x102001 x11).bind fun t103 => (if (rd x9 x11) ≥ t103 then (some x11) else (spec_l10Unstable.l0 k x2 x9 x10 (wrap64 (x11 + 1)) x102000 x102001)))) else (none)) else (none)) else (some (-1))
def spec_l10Unstable.f (k : Nat) (a0_0 : Int) (l0_1 : List (S83)) (l1 : List Int) (a2 : Int) : Option (Int) := spec_l10Unstable.l0 k a2 l1 (l1.length : Int) 0 a0_0 l0_1
theorem spec_l10Unstable.mono_l : ∀ k, (∀ y0 y1 y2 y3 y4 y5, LeO (spec_l10Unstable.l0 k y0 y1 y2 y3 y4 y5) (spec_l10Unstable.l0 (k + 1) y0 y1 y2 y3 y4 y5))
 | 0 => fun _ _ _ _ _ _ r h => by simp [spec_l10Unstable.l0] at h
 | k + 1 => by
  have ih0 := spec_l10Unstable.mono_l k
  ·intro y0 y1 y2 y3 y4 y5
   unfold spec_l10Unstable.l0
   exact zm24
theorem spec_l10Unstable.mono : ∀ a0 a1 a2 a3 k, LeO (spec_l10Unstable.f k a0 a1 a2 a3) (spec_l10Unstable.f (k + 1) a0 a1 a2 a3) := by
 intro a0 a1 a2 a3 k; have ih0 := spec_l10Unstable.mono_l k; unfold spec_l10Unstable.f; exact zm24
end Go.Proofs.Ytgobnfeahffnaaa.P
end

section
namespace Go.Proofs.Ytgobnfeahffnaaa.Cf
set_option linter.unusedVariables false
set_option linter.unusedSimpArgs false
open Go.RowKit Go.Proofs.YtgobnfeahffnaaaW.PrintWords Go.Proofs.Ytgobnfeahffnaaa.P
/-- The first unstable vertex, from one on; or -1. -/
def unst (n : Int) (es : List E) (q : Int) (p : List Int) : Nat → Nat → Int
  | 0, _ => -1
  | d + 1, i => if (i : Int) = q then unst n es q p d (i + 1) else if rd p i ≥ valG n es i then i else unst n es q p d (i + 1)
theorem implUnst_l0 (n : Int) (es : List E) (q : Int) (p : List Int) (hel : es.length ≤ 1048576) (hl : p.length ≤ 1048576) : ∀ (d i : Nat), i + d = p.length → Ep (fun k => impl_unstable.l0 k q p (p.length : Int) (i : Int) n es) (· = unst n es q p d i) := by
  intro d
  induction d with
  | zero =>
    intro i hi
    refine Ep.up ?_
    simp only [impl_unstable.l0]
    exact Ep.neg (by omega) (Ep.now rfl)
  | succ d ih =>
    intro i hi
    refine Ep.up ?_
    simp only [impl_unstable.l0]
    refine Ep.pos (by omega) (Ep.pos (by omega) (Ep.pos (by omega) ?_))
    rw [wrap_succ (by omega)]
    unfold unst
    refine Ep.ite (fun h => ?_) (fun h => ?_)
    · rw [if_pos h]
      exact ih (i + 1) (by omega)
    · rw [if_neg h]
      refine Ep.bind (implValence n es i hel) ?_
      rintro _ rfl
      refine Ep.ite (fun h2 => Ep.now ?_) (fun h2 => ?_)
      · rw [if_pos h2]
      · rw [if_neg h2]
        exact ih (i + 1) (by omega)
theorem implUnst (n : Int) (es : List E) (p : List Int) (q : Int) (hel : es.length ≤ 1048576) (hl : p.length ≤ 1048576) : Ep (fun k => impl_unstable.f k n es p q) (· = unst n es q p p.length 0) := by
  have := implUnst_l0 n es q p hel hl p.length 0 (by omega)
  simp only [impl_unstable.f]
  exact this
/-- A stable configuration. -/
def sOk (n : Int) (es : List E) (p : List Int) (q : Int) : Bool := pOk n es p q && decide (unst n es q p p.length 0 < 0)
theorem implStable (n : Int) (es : List E) (p : List Int) (q : Int) (hel : es.length ≤ 1048576) (hl : p.length ≤ 1048576) : Ep (fun k => impl_IsStable.f k n es p q) (· = sOk n es p q) := by
  simp only [impl_IsStable.f, sOk]
  refine Ep.bind (implPile n es p q hl) ?_
  rintro _ rfl
  refine Ep.ite (fun h => ?_) (fun h => Ep.now ?_)
  · refine Ep.bind (implUnst n es p q hel hl) ?_
    rintro _ rfl
    refine Ep.now ?_
    rw [h]
    rfl
  · have : pOk n es p q = false := by simpa using h
    rw [this]
    rfl
end Go.Proofs.Ytgobnfeahffnaaa.Cf
end

section
namespace Go.Proofs.Ytgobnfeahffnaaa.Cf
set_option linter.unusedVariables false
set_option linter.unusedSimpArgs false
/-- The edges from v to a list of vertices. -/
def burnSum (es : List E) (b : List Int) (v : Int) : Int := (b.map (mult es v)).sum
inductive Burn (n : Nat) (es : List E) (d : Int → Int) (q : Int) : List Int → Prop
  | start : Burn n es d q [q]
  | step {b : List Int} {v : Int} : Burn n es d q b → 0 ≤ v → v < n → v ∉ b → d v < burnSum es b v → Burn n es d q (b ++ [v])
theorem Burn.ok {n : Nat} {es : List E} {d : Int → Int} {q : Int} {b : List Int} (hq : 0 ≤ q ∧ q < n) (h : Burn n es d q b) : b.Nodup ∧ (∀ v ∈ b, 0 ≤ v ∧ v < n) ∧ q ∈ b := by
  induction h with
  | start => exact ⟨by simp, fun v hv => by rw [List.mem_singleton.1 hv]; exact hq, by simp⟩
  | @step b v _ h0 h1 hv _ ih =>
    refine ⟨?_, fun x hx => ?_, List.mem_append_left _ ih.2.2⟩
    · rw [List.nodup_append]
      exact ⟨ih.1, by simp, fun a ha c hc => by
        rw [List.mem_singleton.1 hc]
        rintro rfl
        exact hv ha⟩
    · rcases List.mem_append.1 hx with hx | hx
      · exact ih.2.1 x hx
      · rw [List.mem_singleton.1 hx]
        exact ⟨h0, h1⟩
theorem Burn.len {n : Nat} {es : List E} {d : Int → Int} {q : Int} {b : List Int} (hq : 0 ≤ q ∧ q < n) (h : Burn n es d q b) : b.length ≤ n := nodup_len n b (h.ok hq).1 (h.ok hq).2.1
theorem sum_ind (x : Int) : ∀ (b : List Int), b.Nodup → (b.map (fun w => if x = w then (1 : Int) else 0)).sum = if x ∈ b then 1 else 0
  | [], _ => by simp
  | a :: r, h => by
    have ih := sum_ind x r (List.nodup_cons.1 h).2
    have hn := (List.nodup_cons.1 h).1
    simp only [List.map_cons, List.sum_cons, ih, List.mem_cons]
    by_cases e : x = a
    · subst e
      simp [hn]
    · simp [e]
theorem sum_zero (b : List Int) : (b.map (fun _ => (0 : Int))).sum = 0 := by
  induction b with
  | nil => rfl
  | cons a r ih => simp only [List.map_cons, List.sum_cons, ih]; rfl
theorem sum_add (b : List Int) (f g : Int → Int) : (b.map (fun w => f w + g w)).sum = (b.map f).sum + (b.map g).sum := by
  induction b with
  | nil => rfl
  | cons a r ih => simp only [List.map_cons, List.sum_cons, ih]; omega
/-- What does not burn takes as much as burns at its edges. -/
theorem burnSum_lap {n : Int} {es : List E} (hes : ∀ e ∈ es, EOk n e) {b : List Int} (hb : b.Nodup) {v : Int} (hv : v ∉ b) : burnSum es b v = lap es (ind (fun x => decide (x ∉ b))) v := by
  induction es with
  | nil =>
    unfold burnSum
    rw [lap_nil]
    exact sum_zero b
  | cons e r ih =>
    have ih := ih (fun x hx => hes x (List.mem_cons_of_mem _ hx))
    have hk := hes e List.mem_cons_self
    unfold EOk at hk
    have h1 : burnSum (e :: r) b v = (b.map (fun w => multE v w e)).sum + burnSum r b v := by
      unfold burnSum
      rw [← sum_add]
      congr 1
    rw [h1, ih, lap_cons]
    congr 1
    unfold lapE ind multE
    by_cases a : e.f0 = v
    · have c : ¬ e.f1 = v := by omega
      have key : (b.map (fun w => if (e.f0 = v ∧ e.f1 = w) ∨ (e.f0 = w ∧ e.f1 = v) then (1 : Int) else 0)).sum = if e.f1 ∈ b then 1 else 0 := by
        rw [← sum_ind e.f1 b hb]
        congr 1
        apply List.map_congr_left
        intro w _
        simp [a, c]
      rw [key, if_pos a, if_neg c, a]
      by_cases m : e.f1 ∈ b <;> simp [m, hv]
    · by_cases c : e.f1 = v
      · have key : (b.map (fun w => if (e.f0 = v ∧ e.f1 = w) ∨ (e.f0 = w ∧ e.f1 = v) then (1 : Int) else 0)).sum = if e.f0 ∈ b then 1 else 0 := by
          rw [← sum_ind e.f0 b hb]
          congr 1
          apply List.map_congr_left
          intro w _
          simp [a, c]
        rw [key, if_neg a, if_pos c, c]
        by_cases m : e.f0 ∈ b <;> simp [m, hv]
      · have key : (b.map (fun w => if (e.f0 = v ∧ e.f1 = w) ∨ (e.f0 = w ∧ e.f1 = v) then (1 : Int) else 0)).sum = 0 := by
          exact (congrArg List.sum (List.map_congr_left (g := fun _ => (0 : Int)) (fun w _ => by simp [a, c]))).trans (sum_zero b)
        rw [key, if_neg a, if_neg c]
        rfl
/-- A lesser set takes more. -/
theorem lap_ind_mono {es : List E} {S T : Int → Bool} {v : Int} (hv : S v = true) (hw : T v = true) (h : ∀ x, S x = true → T x = true) : lap es (ind T) v ≤ lap es (ind S) v := by
  apply sumE_le
  intro e _
  have h0 := h e.f0
  have h1 := h e.f1
  unfold lapE ind
  by_cases a : e.f0 = v
  · by_cases b : e.f1 = v
    · simp [a, b]
    · rw [if_pos a, if_pos a, if_neg b, if_neg b, a, hv, hw]
      cases hs : S e.f1 <;> cases ht : T e.f1 <;> simp_all
  · by_cases b : e.f1 = v
    · rw [if_neg a, if_neg a, if_pos b, if_pos b, b, hv, hw]
      cases hs : S e.f0 <;> cases ht : T e.f0 <;> simp_all
    · rw [if_neg a, if_neg a, if_neg b, if_neg b]
      exact Int.le_refl _
theorem Burn.meets {n : Nat} {es : List E} (hes : ∀ e ∈ es, EOk n e) {d : Int → Int} {q : Int} (hq : 0 ≤ q ∧ q < n) {b : List Int} (h : Burn n es d q b) {S : Int → Bool} (hS : S q = false) : (∀ v ∈ b, S v = false) ∨ ∃ v : Int, 0 ≤ v ∧ v < n ∧ S v = true ∧ d v < lap es (ind S) v := by
  induction h with
  | start => exact .inl (fun v hv => by rw [List.mem_singleton.1 hv]; exact hS)
  | @step b v hb h0 h1 hv hlt ih =>
    rcases ih with ih | ih
    · by_cases hx : S v = true
      · right
        refine ⟨v, h0, h1, hx, ?_⟩
        rw [burnSum_lap hes (hb.ok hq).1 hv] at hlt
        have := lap_ind_mono (es := es) (S := S) (T := fun x => decide (x ∉ b)) hx (by simpa using hv) (fun x hx => by
          simp only [decide_eq_true_eq]
          intro hm
          rw [ih x hm] at hx
          cases hx)
        omega
      · left
        intro x hm
        rcases List.mem_append.1 hm with hm | hm
        · exact ih x hm
        · rw [List.mem_singleton.1 hm]
          simpa using hx
    · exact .inr ih
/-- All burn: the divisor is reduced. -/
theorem Burn.red {n : Nat} {es : List E} (hes : ∀ e ∈ es, EOk n e) {d : Int → Int} {q : Int} (hq : 0 ≤ q ∧ q < n) {b : List Int} (h : Burn n es d q b) (hl : b.length = n) (hd : ∀ v : Int, 0 ≤ v → v < n → v ≠ q → 0 ≤ d v) : Red n es q d := by
  refine ⟨hd, fun S hS hx => ?_⟩
  rcases h.meets hes hq hS with hb | hb
  · exfalso
    obtain ⟨v, h0, h1, hv⟩ := hx
    have : v ∈ b := by
      apply Classical.byContradiction
      intro hn
      have := nodup_len n (v :: b) (List.nodup_cons.2 ⟨hn, (h.ok hq).1⟩) (fun x hx => by
        rcases List.mem_cons.1 hx with rfl | hx
        · exact ⟨h0, h1⟩
        · exact (h.ok hq).2.1 x hx)
      simp at this
      omega
    rw [hb v this] at hv
    cases hv
  · exact hb
theorem sumE_bd {es : List E} {f : E → Int} {S : Int} (h : ∀ e ∈ es, -S ≤ f e ∧ f e ≤ S) : -(es.length * S) ≤ sumE es f ∧ sumE es f ≤ es.length * S := by
  induction es with
  | nil => simp [sumE]
  | cons e r ih =>
    rw [sumE_cons]
    have := ih (fun x hx => h x (List.mem_cons_of_mem _ hx))
    have := h e List.mem_cons_self
    rw [List.length_cons, Int.natCast_succ, Int.add_mul, Int.one_mul]
    omega
theorem lap_bd {n : Int} {es : List E} (hes : ∀ e ∈ es, EOk n e) (hel : es.length ≤ 12) {s : Int → Int} {L S : Int} (hS : 0 ≤ S) (h : ∀ v, 0 ≤ v → v < n → L ≤ s v ∧ s v ≤ L + S) (w : Int) : -(12 * S) ≤ lap es s w ∧ lap es s w ≤ 12 * S := by
  have h1 := sumE_bd (es := es) (f := lapE s w) (S := S) (fun e he => by
    have hk := hes e he
    unfold EOk at hk
    have h0 := h e.f0 (by omega) (by omega)
    have h1 := h e.f1 (by omega) (by omega)
    unfold lapE
    by_cases a : e.f0 = w
    · rw [if_pos a, if_neg (by omega)]; omega
    · rw [if_neg a]
      by_cases b : e.f1 = w
      · rw [if_pos b]; omega
      · rw [if_neg b]; omega)
  have h2 : (es.length : Int) * S ≤ 12 * S := Int.mul_le_mul_of_nonneg_right (by omega) hS
  unfold lap
  omega
theorem sumN_le_const {n : Nat} {f : Nat → Int} {c : Int} (h : ∀ i, i < n → f i ≤ c) : sumN n f ≤ n * c := by
  rw [← sumN_const]
  exact sumN_le h
theorem sumN_nonneg {n : Nat} {f : Nat → Int} (h : ∀ i, i < n → 0 ≤ f i) : 0 ≤ sumN n f := by
  have := sumN_le (n := n) (f := fun _ => 0) (g := f) h
  rw [sumN_zero] at this
  exact this
theorem one_nat (v t : Int) (i : Nat) : one v t (i : Int) = if (i : Int) = v then t else 0 := rfl
theorem sumN_one' {n : Nat} {v : Int} (h0 : 0 ≤ v) (h1 : v < n) (t : Int) : sumN n (fun i => one v t (i : Int)) = t := by
  have := sumN_one (n := n) v.toNat (by omega) t
  refine (sumN_congr fun i _ => ?_).trans this
  rw [one_nat]
  have : ((i : Int) = v) ↔ i = v.toNat := by omega
  simp only [this]
theorem Legal.keeps1 {n : Nat} {es : List E} (hes : ∀ e ∈ es, EOk n e) {q : Int} {p s : Int → Int} (h : Legal n es q p s) : ∀ v : Int, 0 ≤ v → v < n → 0 < s v → 0 ≤ p v - lap es s v := by
  induction h with
  | zero => intro v _ _ h; exact absurd h (by simp)
  | @step s u hl h0 h1 hq hv ih =>
    intro w k0 k1 hs
    rw [lap_add]
    by_cases e : w = u
    · subst e
      rw [lap_one_self hes]
      omega
    · rw [lap_one_ne hes e]
      have := mult_nonneg es u w
      have := ih w k0 k1 (by
        have hs' : 0 < s w + one u 1 w := hs
        unfold one at hs'
        rw [if_neg e] at hs'
        omega)
      omega
theorem Legal.bound1 {n : Nat} {es : List E} (hes : ∀ e ∈ es, EOk n e) (hj : Joined n es) {q : Int} (hq : 0 ≤ q ∧ q < n) {p s : Int → Int} (h : Legal n es q p s) {c : Int} (hc : 0 ≤ c) (hpc : ∀ v : Int, 0 ≤ v → v < n → v ≠ q → p v ≤ c) : ∀ v : Int, 0 ≤ v → v < n → s v ≤ n * (n * c) := by
  refine script_bd hes hj hq hc (by rw [h.nonneg.2]; exact Int.le_refl _) ?_
  intro v h0 h1 hs
  have hne : v ≠ q := by rintro rfl; rw [h.nonneg.2] at hs; omega
  have := h.keeps1 hes v h0 h1 hs
  have := hpc v h0 h1 hne
  omega
theorem sq_le {n : Nat} (hn : n ≤ 6) {c : Int} (hc : 0 ≤ c) : (n : Int) * (n * c) ≤ 36 * c := by
  have h1 : (n : Int) * c ≤ 6 * c := Int.mul_le_mul_of_nonneg_right (by omega) hc
  have h2 : (n : Int) * (n * c) ≤ n * (6 * c) := Int.mul_le_mul_of_nonneg_left h1 (by omega)
  have h3 : (n : Int) * (6 * c) ≤ 6 * (6 * c) := Int.mul_le_mul_of_nonneg_right (by omega) (by omega)
  omega
/-- A legal script of no more than 36 c a vertex: all in all 216 c. -/
theorem Legal.small {n : Nat} (hn : n ≤ 6) {es : List E} (hes : ∀ e ∈ es, EOk n e) (hj : Joined n es) {q : Int} (hq : 0 ≤ q ∧ q < n) {p s : Int → Int} (h : Legal n es q p s) {c : Int} (hc : 0 ≤ c) (hpc : ∀ v : Int, 0 ≤ v → v < n → v ≠ q → p v ≤ c) :
    (∀ v : Int, 0 ≤ v → v < n → 0 ≤ s v ∧ s v ≤ 36 * c) ∧ sumN n (fun i => s (i : Int)) ≤ 216 * c := by
  have h36 := sq_le hn hc
  have hb : ∀ v : Int, 0 ≤ v → v < n → 0 ≤ s v ∧ s v ≤ 36 * c := fun v h0 h1 => by
    have := h.bound1 hes hj hq hc hpc v h0 h1
    have := h.nonneg.1 v
    omega
  refine ⟨hb, ?_⟩
  have h1 := sumN_le_const (n := n) (f := fun i => s (i : Int)) (c := 36 * c) (fun i hi => (hb i (by omega) (by omega)).2)
  have h2 : (n : Int) * (36 * c) ≤ 6 * (36 * c) := Int.mul_le_mul_of_nonneg_right (by omega) (by omega)
  omega
theorem sum_grow {n : Nat} {s : Int → Int} {v : Int} (h0 : 0 ≤ v) (h1 : v < n) (t : Int) : sumN n (fun i => (fun w => s w + one v t w) (i : Int)) = sumN n (fun i => s (i : Int)) + t := by
  rw [sumN_add n (fun i => s (i : Int)) (fun i => one v t (i : Int)), sumN_one' h0 h1]
/-- Borrowing is toppling of what is missing. -/
def dual (es : List E) (d : Int → Int) (v : Int) : Int := val es v - 1 - d v
structure Sets (n : Nat) (es : List E) (q : Int) (d u : Int → Int) : Prop where
  pos : ∀ w, 0 ≤ u w
  at_q : u q = 0
  keeps : ∀ v : Int, 0 ≤ v → v < n → v ≠ q → 0 ≤ d v - lap es u v
theorem Sets.zero {n : Nat} {es : List E} {q : Int} {d : Int → Int} (h : ∀ v : Int, 0 ≤ v → v < n → v ≠ q → 0 ≤ d v) : Sets n es q d (fun _ => 0) where
  pos := fun _ => Int.le_refl _
  at_q := rfl
  keeps := fun v h0 h1 h2 => by
    rw [lap_const (c := 0) (fun _ _ => ⟨rfl, rfl⟩)]
    have := h v h0 h1 h2
    omega
theorem Sets.small {n : Nat} (hn : n ≤ 6) {es : List E} (hes : ∀ e ∈ es, EOk n e) (hj : Joined n es) {q : Int} (hq : 0 ≤ q ∧ q < n) {d u : Int → Int} (h : Sets n es q d u) {c : Int} (hc : 0 ≤ c) (hpc : ∀ v : Int, 0 ≤ v → v < n → v ≠ q → d v ≤ c) :
    (∀ v : Int, 0 ≤ v → v < n → 0 ≤ u v ∧ u v ≤ 36 * c) ∧ sumN n (fun i => u (i : Int)) ≤ 216 * c := by
  have h36 := sq_le hn hc
  have hb : ∀ v : Int, 0 ≤ v → v < n → 0 ≤ u v ∧ u v ≤ 36 * c := fun v h0 h1 => by
    have := script_bd hes hj hq hc (s := u) (by rw [h.at_q]; exact Int.le_refl _) (fun v h0 h1 hs => by
      have hne : v ≠ q := by rintro rfl; rw [h.at_q] at hs; omega
      have := h.keeps v h0 h1 hne
      have := hpc v h0 h1 hne
      omega) v h0 h1
    have := h.pos v
    omega
  refine ⟨hb, ?_⟩
  have h1 := sumN_le_const (n := n) (f := fun i => u (i : Int)) (c := 36 * c) (fun i hi => (hb i (by omega) (by omega)).2)
  have h2 : (n : Int) * (36 * c) ≤ 6 * (36 * c) := Int.mul_le_mul_of_nonneg_right (by omega) (by omega)
  omega
def unb (b : List Int) : Int → Int := ind (fun x => decide (x ∉ b))
theorem unb_mem {b : List Int} {v : Int} (h : v ∈ b) : unb b v = 0 := by simp [unb, ind, h]
theorem unb_not {b : List Int} {v : Int} (h : v ∉ b) : unb b v = 1 := by simp [unb, ind, h]
theorem unb_nonneg (b : List Int) (v : Int) : 0 ≤ unb b v := by
  by_cases h : v ∈ b
  · rw [unb_mem h]; omega
  · rw [unb_not h]; omega
/-- What the fire does not reach, fires. -/
theorem Sets.step {n : Nat} {es : List E} (hes : ∀ e ∈ es, EOk n e) {q : Int} (hq : 0 ≤ q ∧ q < n) {d u x : Int → Int} (h : Sets n es q d u) (hx : ∀ v : Int, 0 ≤ v → v < n → x v = d v - lap es u v) {b : List Int} (hb : Burn n es x q b) (hc : ∀ v : Int, 0 ≤ v → v < n → v ∉ b → burnSum es b v ≤ x v) :
    Sets n es q d (fun w => u w + unb b w) where
  pos := fun w => by have := h.pos w; have := unb_nonneg b w; show 0 ≤ u w + unb b w; omega
  at_q := by show u q + unb b q = 0; rw [h.at_q, unb_mem (hb.ok hq).2.2]; rfl
  keeps := fun v h0 h1 h2 => by
    rw [lap_add]
    have := h.keeps v h0 h1 h2
    have e := hx v h0 h1
    by_cases hm : v ∈ b
    · have := lap_le_zero (es := es) (r := unb b) (v := v) (unb_nonneg b) (unb_mem hm)
      omega
    · have h3 := hc v h0 h1 hm
      rw [burnSum_lap hes (hb.ok hq).1 hm] at h3
      have : lap es (unb b) v = lap es (ind (fun x => decide (x ∉ b))) v := rfl
      omega
def RedTo (n : Nat) (es : List E) (q : Int) (d x s : Int → Int) : Prop := Red n es q x ∧ s q = 0 ∧ ∀ v : Int, 0 ≤ v → v < n → x v = d v - lap es s v
theorem RedTo.unique {n : Nat} {es : List E} (hes : ∀ e ∈ es, EOk n e) {q : Int} (hq : 0 ≤ q ∧ q < n) {d x s x' s' : Int → Int} (h : RedTo n es q d x s) (h' : RedTo n es q d x' s') : ∀ v : Int, 0 ≤ v → v < n → x v = x' v ∧ s v = s' v := by
  have hu := red_unique hes hq h.1 h'.1 (s := fun v => s' v - s v) (fun v h0 h1 => by
    rw [lap_sub, h.2.2 v h0 h1, h'.2.2 v h0 h1]
    omega)
  intro v h0 h1
  have h2 := hu.1 v h0 h1
  simp only [h.2.1, h'.2.1] at h2
  exact ⟨(hu.2 v h0 h1).symm, by omega⟩
theorem Red.congr {n : Nat} {es : List E} {q : Int} {d d' : Int → Int} (h : Red n es q d) (he : ∀ v : Int, 0 ≤ v → v < n → d v = d' v) : Red n es q d' := by
  refine ⟨fun v h0 h1 h2 => by rw [← he v h0 h1]; exact h.1 v h0 h1 h2, fun S hS hx => ?_⟩
  obtain ⟨v, h0, h1, h2, h3⟩ := h.2 S hS hx
  exact ⟨v, h0, h1, h2, by rw [← he v h0 h1]; exact h3⟩
/-- Off q a reduced divisor lies below the valence. -/
theorem Red.lt {n : Nat} {es : List E} (hes : ∀ e ∈ es, EOk n e) {q : Int} {d : Int → Int} (h : Red n es q d) {v : Int} (h0 : 0 ≤ v) (h1 : v < n) (hv : v ≠ q) : 0 ≤ d v ∧ d v < val es v := by
  refine ⟨h.1 v h0 h1 hv, ?_⟩
  obtain ⟨w, _, _, hw, hlt⟩ := h.2 (fun x => decide (x = v)) (by simpa using fun e => hv e.symm) ⟨v, h0, h1, by simp⟩
  obtain rfl : w = v := by simpa using hw
  have e : ind (fun x => decide (x = w)) = one w 1 := by
    funext x
    unfold ind one
    by_cases c : x = w <;> simp [c]
  rw [e, lap_one_self hes] at hlt
  omega
/-- .. and at q it makes up the degree. -/
theorem Red.at_q {n : Nat} (hn : n ≤ 6) {es : List E} (hes : ∀ e ∈ es, EOk n e) (hel : es.length ≤ 12) {q : Int} (hq : 0 ≤ q ∧ q < n) {d : Int → Int} (h : Red n es q d) : sumN n (fun i => d (i : Int)) - 72 ≤ d q ∧ d q ≤ sumN n (fun i => d (i : Int)) := by
  have hf : ∀ i : Nat, i < n → 0 ≤ d i - one q (d q) i ∧ d i - one q (d q) i ≤ 12 := by
    intro i hi
    unfold one
    by_cases e : (i : Int) = q
    · rw [if_pos e, e]; omega
    · rw [if_neg e]
      have := h.lt hes (v := i) (by omega) (by omega) e
      have := val_le es i
      omega
  have h1 : sumN n (fun i => d (i : Int)) = sumN n (fun i => d i - one q (d q) i) + d q := by
    have := sumN_add n (fun i => d i - one q (d q) i) (fun i => one q (d q) i)
    rw [sumN_one' hq.1 hq.2] at this
    rw [← this]
    apply sumN_congr
    intro i _
    omega
  have h2 := sumN_nonneg (n := n) (fun i hi => (hf i hi).1)
  have h3 := sumN_le_const (n := n) (fun i hi => (hf i hi).2)
  omega
theorem RedTo.degree {n : Nat} {es : List E} (hes : ∀ e ∈ es, EOk n e) {q : Int} {d x s : Int → Int} (h : RedTo n es q d x s) : sumN n (fun i => x (i : Int)) = sumN n (fun i => d (i : Int)) := by
  have h1 := sumN_congr (n := n) (f := fun i => x (i : Int)) (g := fun i => d (i : Int) + (- lap es s i)) (fun i hi => by
    have := h.2.2 i (by omega) (by omega)
    omega)
  have h2 := lap_sum (n := n) hes (fun v => - s v)
  rw [h1, sumN_add n (fun i => d (i : Int)) (fun i => - lap es s i)]
  have h3 : sumN n (fun i => lap es (fun v => - s v) i) = sumN n (fun i => - lap es s i) := sumN_congr (fun i _ => lap_neg _ _ _)
  omega
end Go.Proofs.Ytgobnfeahffnaaa.Cf
end

section
namespace Go.Proofs.Ytgobnfeahffnaaa.Cf
set_option linter.unusedVariables false
set_option linter.unusedSimpArgs false
open Go.Proofs.YtgobnfeahffnaaaW.PrintWords
theorem rd_set {x : List Int} {i : Int} (h0 : 0 ≤ i) (h1 : i < x.length) (y : Int) {w : Int} (hw : 0 ≤ w) : rd (x.set i.toNat y) w = if w = i then y else rd x w := by
  obtain ⟨a, rfl⟩ := Int.eq_ofNat_of_zero_le h0
  obtain ⟨b, rfl⟩ := Int.eq_ofNat_of_zero_le hw
  simp only [Int.ofNat_eq_natCast, Int.toNat_natCast, rd_nat, List.getD_eq_getElem?_getD] at *
  by_cases c : b = a
  · subst c
    rw [List.getElem?_set_self (by omega), if_pos rfl]
    rfl
  · rw [List.getElem?_set_ne (fun y => c y.symm), if_neg (by omega)]
/-- A list's numbers lie between -B and B. -/
def Bd (x : List Int) (B : Int) : Prop := ∀ w : Int, 0 ≤ w → w < x.length → -B ≤ rd x w ∧ rd x w ≤ B
theorem Bd.mono {x : List Int} {B B' : Int} (h : Bd x B) (hB : B ≤ B') : Bd x B' := fun w h0 h1 => by have := h w h0 h1; omega
/-- x is d, less what the script s takes over these edges. -/
def Less (es : List E) (d : List Int) (s : Int → Int) (x : List Int) : Prop := x.length = d.length ∧ ∀ w : Int, 0 ≤ w → w < d.length → rd x w = rd d w - lap es s w
theorem lap_snoc (es : List E) (e : E) (s : Int → Int) (w : Int) : lap (es ++ [e]) s w = lap es s w + lapE s w e := by
  induction es with
  | nil => simp [lap, sumE]
  | cons a r ih => rw [List.cons_append, lap_cons, ih, lap_cons]; omega
theorem lap_take {es : List E} {i : Nat} (h : i < es.length) (s : Int → Int) (w : Int) : lap (es.take (i + 1)) s w = lap (es.take i) s w + lapE s w es[i] := by
  rw [List.take_succ_eq_append_getElem h, lap_snoc]
/-- The list c tells s on the first n numbers. -/
def Rep (n : Nat) (c : List Int) (s : Int → Int) : Prop := c.length = n ∧ ∀ w : Int, 0 ≤ w → w < n → rd c w = s w
theorem Rep.ext {n : Nat} {c c' : List Int} {s : Int → Int} (h : Rep n c s) (h' : Rep n c' s) : c = c' := by
  apply List.ext_getElem (by rw [h.1, h'.1])
  intro i h1 h2
  have e := h.2 i (by omega) (by have := h.1; omega)
  have e' := h'.2 i (by omega) (by have := h.1; omega)
  rw [rd_get h1] at e
  rw [rd_get h2] at e'
  rw [e, e']
theorem Rep.congr {n : Nat} {c : List Int} {s t : Int → Int} (h : Rep n c s) (he : ∀ w : Int, 0 ≤ w → w < n → s w = t w) : Rep n c t := ⟨h.1, fun w h0 h1 => (h.2 w h0 h1).trans (he w h0 h1)⟩
theorem Rep.self {n : Nat} {c : List Int} (h : c.length = n) : Rep n c (rd c) := ⟨h, fun _ _ _ => rfl⟩
theorem Rep.set {n : Nat} {c : List Int} {s : Int → Int} (h : Rep n c s) {v : Int} (h0 : 0 ≤ v) (h1 : v < n) (y : Int) : Rep n (c.set v.toNat y) (fun w => if w = v then y else s w) := by
  refine ⟨by rw [List.length_set]; exact h.1, fun w w0 w1 => ?_⟩
  rw [rd_set h0 (by rw [h.1]; exact h1) y w0, h.2 w w0 w1]
theorem rd_replicate (n : Nat) (v : Int) : rd (List.replicate n (0 : Int)) v = 0 := by
  unfold rd
  rw [List.getD_eq_getElem?_getD]
  by_cases h : v.toNat < n
  · rw [List.getElem?_replicate_of_lt h]; rfl
  · rw [List.getElem?_eq_none (by simp; omega)]; rfl
theorem Rep.zero (n : Nat) : Rep n (List.replicate n (0 : Int)) (fun _ => 0) := ⟨by simp, fun w _ _ => rd_replicate n w⟩
/-- The list of a function's first n values. -/
def repL (n : Nat) (f : Int → Int) : List Int := (List.range n).map fun i : Nat => f (i : Int)
theorem repL_rep (n : Nat) (f : Int → Int) : Rep n (repL n f) f := by
  refine ⟨by simp [repL], fun w h0 h1 => ?_⟩
  obtain ⟨a, rfl⟩ := Int.eq_ofNat_of_zero_le h0
  rw [rd_get (by simp [repL]; omega)]
  simp [repL]
theorem Rep.eq {n : Nat} {c : List Int} {s : Int → Int} (h : Rep n c s) : c = repL n s := h.ext (repL_rep n s)
theorem Rep.mem {n : Nat} {c : List Int} {s : Int → Int} (h : Rep n c s) {x : Int} (hx : x ∈ c) : ∃ w : Int, 0 ≤ w ∧ w < n ∧ x = s w := by
  obtain ⟨i, hi, rfl⟩ := List.getElem_of_mem hx
  have := h.1
  refine ⟨i, by omega, by omega, ?_⟩
  rw [← h.2 i (by omega) (by omega), rd_get hi]
theorem Rep.bd {n : Nat} {c : List Int} {s : Int → Int} {B : Int} (h : Rep n c s) (hb : ∀ w : Int, 0 ≤ w → w < n → -B ≤ s w ∧ s w ≤ B) : Bd c B := fun w h0 h1 => by
  rw [h.2 w h0 (by have := h.1; omega)]
  exact hb w h0 (by have := h.1; omega)
theorem Less.rep {n : Nat} {es : List E} {d x : List Int} {s : Int → Int} (hd : d.length = n) (h : Less es d s x) : Rep n x (fun w => rd d w - lap es s w) := ⟨h.1.trans hd, fun w h0 h1 => h.2 w h0 (by omega)⟩
/-- What toppling off q ends in, and how often each vertex toppled. -/
def Settled (n : Nat) (es : List E) (q : Int) (p : List Int) (r : List Int × List Int) : Prop :=
  ∃ s : Int → Int, Legal n es q (rd p) s ∧ Stable n es q (fun v => rd p v - lap es s v) ∧ Rep n r.1 (fun w => if w = q then 0 else rd p w - lap es s w) ∧ Rep n r.2 s
theorem Settled.unique {n : Nat} {es : List E} {q : Int} {p : List Int} {r r' : List Int × List Int} (h : Settled n es q p r) (h' : Settled n es q p r') : r = r' := by
  obtain ⟨s, h1, h2, h3, h4⟩ := h
  obtain ⟨t, k1, k2, k3, k4⟩ := h'
  obtain rfl := h1.unique k1 h2 k2
  exact Prod.ext (h3.ext k3) (h4.ext k4)
open Classical in
noncomputable def settleS (n : Nat) (es : List E) (q : Int) (p : List Int) : List Int × List Int := if h : ∃ r, Settled n es q p r then Classical.choose h else ([], [])
theorem Settled.eq {n : Nat} {es : List E} {q : Int} {p : List Int} {r : List Int × List Int} (h : Settled n es q p r) : r = settleS n es q p := by
  have he : ∃ r, Settled n es q p r := ⟨r, h⟩
  unfold settleS
  rw [dif_pos he]
  exact h.unique (Classical.choose_spec he)
theorem settleS_len {n : Nat} (es : List E) (q : Int) (p : List Int) (hn : n ≤ 6) : (settleS n es q p).1.length ≤ 6 ∧ (settleS n es q p).2.length ≤ 6 := by
  unfold settleS
  split
  · rename_i he
    obtain ⟨s, _, _, h3, h4⟩ := Classical.choose_spec he
    rw [h3.1, h4.1]
    exact ⟨hn, hn⟩
  · simp
def Reduced (n : Nat) (es : List E) (q : Int) (d : List Int) (r : List Int × List Int) : Prop := r.1.length = n ∧ r.2.length = n ∧ RedTo n es q (rd d) (rd r.1) (rd r.2)
theorem Reduced.unique {n : Nat} {es : List E} (hes : ∀ e ∈ es, EOk n e) {q : Int} (hq : 0 ≤ q ∧ q < n) {d : List Int} {r r' : List Int × List Int} (h : Reduced n es q d r) (h' : Reduced n es q d r') : r = r' := by
  have hu := h.2.2.unique hes hq h'.2.2
  refine Prod.ext ?_ ?_
  · exact (Rep.self h.1).ext ((Rep.self h'.1).congr fun w h0 h1 => (hu w h0 h1).1.symm)
  · exact (Rep.self h.2.1).ext ((Rep.self h'.2.1).congr fun w h0 h1 => (hu w h0 h1).2.symm)
open Classical in
noncomputable def reduceS (n : Nat) (es : List E) (q : Int) (d : List Int) : List Int × List Int := if h : ∃ r, Reduced n es q d r then Classical.choose h else ([], [])
theorem Reduced.eq {n : Nat} {es : List E} (hes : ∀ e ∈ es, EOk n e) {q : Int} (hq : 0 ≤ q ∧ q < n) {d : List Int} {r : List Int × List Int} (h : Reduced n es q d r) : r = reduceS n es q d := by
  have he : ∃ r, Reduced n es q d r := ⟨r, h⟩
  unfold reduceS
  rw [dif_pos he]
  exact h.unique hes hq (Classical.choose_spec he)
/-- The sum of a list as a sum over numbers. -/
theorem sum_rd : ∀ (n : Nat) (c : List Int), c.length = n → c.sum = sumN n (fun i => rd c (i : Int))
  | 0, c, h => by
    obtain rfl := List.length_eq_zero_iff.1 h
    rfl
  | n + 1, c, h => by
    obtain ⟨a, x, rfl⟩ : ∃ a x, c = a ++ [x] := ⟨c.dropLast, c.getLast (by rintro rfl; simp at h), (List.dropLast_concat_getLast _).symm⟩
    simp only [List.length_append, List.length_cons, List.length_nil, Nat.zero_add, Nat.add_right_cancel_iff] at h
    simp only [sumN, List.sum_append, List.sum_cons, List.sum_nil]
    rw [sum_rd n a h]
    congr 1
    · apply sumN_congr
      intro i hi
      rw [rd_get (show i < a.length by omega), rd_get (show i < (a ++ [x]).length by simp; omega), List.getElem_append_left (by omega)]
    · subst h
      rw [rd_get (show a.length < (a ++ [x]).length by simp)]
      simp
/-- A reduced divisor's numbers, where the degree is D. -/
theorem Reduced.bd {n : Nat} (hn : n ≤ 6) {es : List E} (hes : ∀ e ∈ es, EOk n e) (hel : es.length ≤ 12) {q : Int} (hq : 0 ≤ q ∧ q < n) {d : List Int} (hd : d.length = n) {r : List Int × List Int} (h : Reduced n es q d r) :
    r.1.sum = d.sum ∧ ∀ v : Int, 0 ≤ v → v < n → (v ≠ q → 0 ≤ rd r.1 v ∧ rd r.1 v ≤ 11) ∧ (v = q → d.sum - 72 ≤ rd r.1 v ∧ rd r.1 v ≤ d.sum) := by
  have h1 : r.1.sum = d.sum := by rw [sum_rd n _ h.1, sum_rd n _ hd]; exact h.2.2.degree hes
  refine ⟨h1, fun v h0 h2 => ⟨fun hv => ?_, ?_⟩⟩
  · have := h.2.2.1.lt hes h0 h2 hv
    have := val_le es v
    omega
  · rintro rfl
    have := h.2.2.1.at_q hn hes hel hq
    rw [← sum_rd n _ h.1, h1] at this
    exact this
end Go.Proofs.Ytgobnfeahffnaaa.Cf
end

section
namespace Go.Proofs.Ytgobnfeahffnaaa.Cf
set_option linter.unusedVariables false
set_option linter.unusedSimpArgs false
open Go.Proofs.YtgobnfeahffnaaaW.PrintWords
theorem unst_ok (n : Int) (es : List E) (q : Int) (p : List Int) : ∀ (d i : Nat), (unst n es q p d i = -1 ∧ ∀ j : Nat, i ≤ j → j < i + d → (j : Int) ≠ q → rd p (j : Int) < valG n es j) ∨ ((i : Int) ≤ unst n es q p d i ∧ unst n es q p d i < i + d ∧ unst n es q p d i ≠ q ∧ valG n es (unst n es q p d i) ≤ rd p (unst n es q p d i))
  | 0, i => .inl ⟨rfl, fun j h0 h1 => by omega⟩
  | d + 1, i => by
    unfold unst
    have ih := unst_ok n es q p d (i + 1)
    by_cases h : (i : Int) = q
    · rw [if_pos h]
      rcases ih with ⟨h1, h2⟩ | ⟨h1, h2, h3⟩
      · refine .inl ⟨h1, fun j h3 h4 h5 => ?_⟩
        by_cases e : j = i
        · subst e; exact absurd h h5
        · exact h2 j (by omega) (by omega) h5
      · exact .inr ⟨by omega, by omega, h3⟩
    · rw [if_neg h]
      by_cases h2 : rd p i ≥ valG n es i
      · rw [if_pos h2]
        exact .inr ⟨by omega, by omega, h, h2⟩
      · rw [if_neg h2]
        rcases ih with ⟨h1, h3⟩ | ⟨h1, h3, h4⟩
        · refine .inl ⟨h1, fun j k1 k2 k3 => ?_⟩
          by_cases e : j = i
          · subst e; omega
          · exact h3 j (by omega) (by omega) k3
        · exact .inr ⟨by omega, by omega, h4⟩
theorem valG_in {n : Int} {es : List E} {v : Int} (h : 0 ≤ v ∧ v < n) : valG n es v = val es v := by
  unfold valG
  rw [if_pos h]
/-- No vertex is unstable: the configuration is stable. -/
theorem unst_neg {n : Nat} {es : List E} {q : Int} {p : List Int} (hp : p.length = n) (h : unst n es q p p.length 0 < 0) : Stable n es q (rd p) := by
  intro v h0 h1 hv
  rcases unst_ok n es q p p.length 0 with ⟨_, h2⟩ | ⟨h2, _⟩
  · have := h2 v.toNat (by omega) (by omega) (by omega)
    have e : ((v.toNat : Nat) : Int) = v := by omega
    rw [e, valG_in ⟨h0, h1⟩] at this
    exact this
  · omega
theorem unst_pos {n : Nat} {es : List E} {q : Int} {p : List Int} (hp : p.length = n) (h : ¬ unst n es q p p.length 0 < 0) : 0 ≤ unst n es q p p.length 0 ∧ unst n es q p p.length 0 < n ∧ unst n es q p p.length 0 ≠ q ∧ val es (unst n es q p p.length 0) ≤ rd p (unst n es q p p.length 0) := by
  rcases unst_ok n es q p p.length 0 with ⟨h1, _⟩ | ⟨h1, h2, h3, h4⟩
  · omega
  · refine ⟨by omega, by omega, h3, ?_⟩
    rw [valG_in ⟨by omega, by omega⟩] at h4
    exact h4
end Go.Proofs.Ytgobnfeahffnaaa.Cf
end

section
namespace Go.Proofs.Ytgobnfeahffnaaa.P
open Go.RowKit Go.Proofs.YtgobnfeahffnaaaW.PrintWords Go.Proofs.YtgobnfeahffnaaaW.PrintLast Go.Proofs.YtgobnfeahffnaaaW.PrintMore
attribute [local go_sem] max2_int min2_int max_two min_two max_three min_three max_four min_four
set_option linter.unusedVariables false
set_option linter.unusedSimpArgs false
def spec_l04Fire.l0 : Nat → List Int → List Int → List (S83) → Int → Int → Option (List Int)
 | 0, _, _, _, _, _ => none
 | k + 1, x2, x7, x14, x15, x16 => if x16 < x15 then (if 0 ≤ x16 then (if x16 < (x14.length : Int) then (if 0 ≤ ((rd_T83 x14 x16).f0) then (if ((rd_T83 x14 x16).f0) < (x7.length : Int) then (if ((rd_T83 x14 x16).f0) < (x2.length : Int) then (if 0 ≤ ((rd_T83 x14 x16).f1) then (if ((rd_T83 x14 x16).f1) < (x2.length : Int) then ((some (x7.set (((rd_T83 x14 x16).f0) : Int).toNat (wrap64 ((wrap64 ((rd x7 ((rd_T83 x14 x16).f0)) - (rd x2 ((rd_T83 x14 x16).f0)))) + (rd x2 ((rd_T83 x14 x16).f1)))) : List Int)).bind fun y113 => (if ((rd_T83 x14 x16).f1) < (x7.length : Int) then (spec_l04Fire.l0 k x2 (y113.set (((rd_T83 x14 x16).f1) : Int).toNat (wrap64 ((wrap64 ((rd y113 ((rd_T83 x14 x16).f1)) - (rd x2 ((rd_T83 x14 x16).f1)))) + (rd x2 ((rd_T83 x14 x16).f0))))) x14 x15 (wrap64 (x16 + 1))) else (none))) else (none)) else (none)) else (none)) else (none)) else (none)) else (none)) else (none)) else (some x7)
def spec_l04Fire.f (k : Nat) (a0_0 : Int) (l0_1 : List (S83)) (l1 : List Int) (l2 : List Int) : Option (List Int) := (some (([] : List Int) : List Int)).bind fun y102 => (if y102.length + l1.length < 17592186044416 then (spec_l04Fire.l0 k l2 (y102 ++ l1) l0_1 (l0_1.length : Int) 0) else (none))
theorem spec_l04Fire.mono_l : ∀ k, (∀ y0 y1 y2 y3 y4, LeO (spec_l04Fire.l0 k y0 y1 y2 y3 y4) (spec_l04Fire.l0 (k + 1) y0 y1 y2 y3 y4))
 | 0 => fun _ _ _ _ _ r h => by simp [spec_l04Fire.l0] at h
 | k + 1 => by
  have ih0 := spec_l04Fire.mono_l k
  ·intro y0 y1 y2 y3 y4
   unfold spec_l04Fire.l0
   exact zm0
theorem spec_l04Fire.mono : ∀ a0 a1 a2 a3 k, LeO (spec_l04Fire.f k a0 a1 a2 a3) (spec_l04Fire.f (k + 1) a0 a1 a2 a3) := by
 intro a0 a1 a2 a3 k; have ih0 := spec_l04Fire.mono_l k; unfold spec_l04Fire.f; exact zm0
end Go.Proofs.Ytgobnfeahffnaaa.P
end

section
namespace Go.Proofs.Ytgobnfeahffnaaa.Cf
set_option linter.unusedVariables false
set_option linter.unusedSimpArgs false
open Go.RowKit Go.Proofs.YtgobnfeahffnaaaW.PrintWords Go.Proofs.Ytgobnfeahffnaaa.P
theorem implFire_l0 (n : Nat) (es : List E) (hes : ∀ e ∈ es, EOk n e) (hel : es.length ≤ 12) (d : List Int) (v t : Int) (hd : d.length = n) (hv : 0 ≤ v ∧ v < n) {B K : Int} (hK : 0 ≤ K ∧ 0 ≤ B) (hbd : Bd d B) (ht : -K ≤ t ∧ t ≤ K) (hB : B + 12 * K ≤ 4611686018427387904) :
    ∀ (k i : Nat) (x : List Int), i + k = es.length → Less (es.take i) d (one v t) x → Bd x (B + K * i) → Ep (fun r => impl_fire.l0 r x v t es (es.length : Int) (i : Int)) (fun r => Less es d (one v t) r ∧ Bd r (B + 12 * K)) := by
  intro k
  induction k with
  | zero =>
    intro i x hi hx hb
    obtain rfl : i = es.length := by omega
    refine Ep.up ?_
    simp only [impl_fire.l0]
    refine Ep.neg (by omega) (Ep.now ⟨?_, hb.mono ?_⟩)
    · rw [List.take_length] at hx
      exact hx
    · have : K * (es.length : Int) ≤ K * 12 := Int.mul_le_mul_of_nonneg_left (by omega) (by omega)
      omega
  | succ k ih =>
    intro i x hi hx hb
    have hlt : i < es.length := by omega
    have he := hes _ (List.getElem_mem hlt)
    unfold EOk at he
    have hxl : x.length = n := hx.1.trans hd
    have hi12 : K * (i : Int) ≤ K * 12 := Int.mul_le_mul_of_nonneg_left (by omega) (by omega)
    have ba := hb es[i].f0 (by omega) (by omega)
    have bb := hb es[i].f1 (by omega) (by omega)
    have e1 : K * ((i + 1 : Nat) : Int) = K * (i : Int) + K := by
      rw [Int.natCast_add, Int.mul_add]
      omega
    have fin : ∀ x' : List Int, x'.length = x.length → (∀ w : Int, 0 ≤ w → w < n → rd x' w = rd x w - lapE (one v t) w es[i]) → Ep (fun r => impl_fire.l0 r x' v t es (es.length : Int) ((i + 1 : Nat) : Int)) (fun r => Less es d (one v t) r ∧ Bd r (B + 12 * K)) := by
      intro x' hl' key
      refine ih (i + 1) _ (by omega) ⟨by rw [hl']; exact hx.1, ?_⟩ ?_
      · intro w h0 h1
        rw [key w h0 (by omega), hx.2 w h0 h1, lap_take hlt]
        omega
      · intro w h0 h1
        have h1' : w < n := by omega
        rw [key w h0 h1', e1]
        have := hb w h0 (by omega)
        unfold lapE one
        (repeat' split) <;> omega
    refine Ep.up ?_
    simp only [impl_fire.l0]
    refine Ep.pos (by omega) (Ep.pos (by omega) (Ep.pos (by omega) ?_))
    rw [rdE_get hlt, wrap_succ (by omega)]
    refine Ep.ite (fun c => ?_) (fun c => Ep.ite (fun c2 => ?_) (fun c2 => ?_))
    · subst c
      refine Ep.pos (by omega) (Ep.pos (by omega) (Ep.bind0 rfl (Ep.pos (by omega) (Ep.pos (by omega) ?_))))
      rw [rd_set (x := x) (by omega) (by omega) _ (w := es[i].f1) (by omega), if_neg (by omega), wrap_id (x := rd x es[i].f0 - t) (by omega) (by omega), wrap_id (x := rd x es[i].f1 + t) (by omega) (by omega)]
      refine fin _ (by simp) ?_
      intro w h0 h1
      rw [rd_set (by omega) (by rw [List.length_set]; omega) _ h0, rd_set (by omega) (by omega) _ h0]
      unfold lapE one
      by_cases c1 : w = es[i].f1
      · subst c1; (repeat' split) <;> omega
      · by_cases c0 : w = es[i].f0
        · subst c0; (repeat' split) <;> omega
        · (repeat' split) <;> omega
    · subst c2
      refine Ep.pos (by omega) (Ep.pos (by omega) (Ep.bind0 rfl (Ep.pos (by omega) (Ep.pos (by omega) ?_))))
      rw [rd_set (x := x) (by omega) (by omega) _ (w := es[i].f0) (by omega), if_neg (by omega), wrap_id (x := rd x es[i].f1 - t) (by omega) (by omega), wrap_id (x := rd x es[i].f0 + t) (by omega) (by omega)]
      refine fin _ (by simp) ?_
      intro w h0 h1
      rw [rd_set (by omega) (by rw [List.length_set]; omega) _ h0, rd_set (by omega) (by omega) _ h0]
      unfold lapE one
      by_cases c1 : w = es[i].f1
      · subst c1; (repeat' split) <;> omega
      · by_cases c0 : w = es[i].f0
        · subst c0; (repeat' split) <;> omega
        · (repeat' split) <;> omega
    · refine fin x rfl ?_
      intro w h0 h1
      unfold lapE one
      (repeat' split) <;> omega
theorem implFire (n : Nat) (es : List E) (hes : ∀ e ∈ es, EOk n e) (hel : es.length ≤ 12) (d : List Int) (v t : Int) (hd : d.length = n) (hv : 0 ≤ v ∧ v < n) {B K : Int} (hK : 0 ≤ K ∧ 0 ≤ B) (hbd : Bd d B) (ht : -K ≤ t ∧ t ≤ K) (hB : B + 12 * K ≤ 4611686018427387904) :
    Ep (fun r => impl_fire.f r (n : Int) es d v t) (fun r => Less es d (one v t) r ∧ Bd r (B + 12 * K)) := by
  simp only [impl_fire.f]
  refine implFire_l0 n es hes hel d v t hd hv hK hbd ht hB es.length 0 _ (by omega) ⟨rfl, fun w _ _ => ?_⟩ ?_
  · simp [lap, sumE]
  · simpa using hbd
/-- From the j-th edge behind on, the first one at v. -/
noncomputable def nextF (es : List E) (v : Int) (idx : Nat) : Nat → Nat → Nat
  | 0, _ => idx
  | d + 1, j => if atB es ((idx + j) % es.length : Nat) v then (idx + j) % es.length else nextF es v idx d (j + 1)
theorem nextF_at {es : List E} {v : Int} {idx : Nat} (ha : At es (idx : Int) v) : ∀ (d j : Nat), At es (nextF es v idx d j : Nat) v
  | 0, _ => ha
  | d + 1, j => by
    unfold nextF
    split
    · rename_i h
      exact atB_iff.1 h
    · exact nextF_at ha d (j + 1)
/-- A rotor at each vertex but q. -/
def RInv (n : Nat) (es : List E) (q : Int) (r : List Int) : Prop := r.length = n ∧ ∀ v : Nat, (h : v < r.length) → (v : Int) ≠ q → At es r[v] v
/-- The rotor at u, an edge's index; the next one; the other end. -/
def rotN (r : List Int) (u : Nat) : Nat := (rd r (u : Int)).toNat
noncomputable def nextN (es : List E) (r : List Int) (u : Nat) : Nat := nextF es (u : Int) (rotN r u) (es.length - 1) 1
noncomputable def stepR (es : List E) (r : List Int) (u : Nat) : List Int := r.set u (nextN es r u : Nat)
theorem RInv.rot {n : Nat} {es : List E} {r : List Int} {q : Int} (h : RInv n es q r) {u : Nat} (hu : u < n) (hq : (u : Int) ≠ q) : rd r (u : Int) = (rotN r u : Nat) ∧ rotN r u < es.length ∧ At es (rotN r u : Nat) u := by
  have hl : u < r.length := by rw [h.1]; exact hu
  have ha := h.2 u hl hq
  have hr := ha.range
  have e : rd r (u : Int) = r[u] := rd_get hl
  have e2 : ((rotN r u : Nat) : Int) = r[u] := by unfold rotN; rw [e]; omega
  exact ⟨by rw [e, e2], by omega, by rw [e2]; exact ha⟩
theorem RInv.next {n : Nat} {es : List E} {r : List Int} {q : Int} (h : RInv n es q r) {u : Nat} (hu : u < n) (hq : (u : Int) ≠ q) : nextN es r u < es.length ∧ At es (nextN es r u : Nat) u := by
  have ha := nextF_at (h.rot hu hq).2.2 (es.length - 1) 1
  have := ha.range
  exact ⟨by unfold nextN; omega, ha⟩
theorem RInv.step {n : Nat} {es : List E} {r : List Int} {q : Int} (h : RInv n es q r) {u : Nat} (hu : u < n) (hq : (u : Int) ≠ q) : RInv n es q (stepR es r u) := by
  refine ⟨by simp [stepR, h.1], ?_⟩
  intro v hv hvq
  have hv' : v < r.length := by simpa [stepR] using hv
  change At es ((r.set u ((nextN es r u : Nat) : Int))[v]'(by simpa using hv')) v
  rw [List.getElem_set]
  split
  · rename_i e
    subst e
    exact (h.next hu hq).2
  · exact h.2 v hv' hvq
theorem copy_eq (l : List Int) (h : l.length ≤ 1048576) : impl_copyInts.f l = some l := by
  unfold impl_copyInts.f
  rw [if_pos (by simp; omega)]
  rfl
end Go.Proofs.Ytgobnfeahffnaaa.Cf
end

section
namespace Go.Proofs.Ytgobnfeahffnaaa.P
open Go.RowKit Go.Proofs.YtgobnfeahffnaaaW.PrintWords Go.Proofs.YtgobnfeahffnaaaW.PrintLast Go.Proofs.YtgobnfeahffnaaaW.PrintMore
attribute [local go_sem] max2_int min2_int max_two min_two max_three min_three max_four min_four
set_option linter.unusedVariables false
set_option linter.unusedSimpArgs false
def spec_l10Topple.f (k : Nat) (a0_0 : Int) (l0_1 : List (S83)) (l1 : List Int) (a2 : Int) (a3 : Int) : Option (List Int) := if 0 ≤ a0_0 then (if (a0_0 : Int).toNat ≤ 35184372088832 then ((some (List.replicate (a0_0 : Int).toNat 0 : List Int)).bind fun y102 => (if 0 ≤ a3 then (if a3 < (y102.length : Int) then ((spec_l04Fire.f k a0_0 l0_1 l1 (y102.set (a3 : Int).toNat 1)).bind fun t106 => (if 0 ≤ a2 then (if a2 < (t106.length : Int) then (some (t106.set (a2 : Int).toNat 0)) else (none)) else (none))) else (none)) else (none))) else (none)) else (none)
theorem spec_l10Topple.mono : ∀ a0 a1 a2 a3 a4 k, LeO (spec_l10Topple.f k a0 a1 a2 a3 a4) (spec_l10Topple.f (k + 1) a0 a1 a2 a3 a4) := by
 intro a0 a1 a2 a3 a4 k; unfold spec_l10Topple.f; repeat' first | (with_reducible apply spec_l04Fire.mono) | (with_reducible exact LeO.refl _) | (with_reducible exact LeO.none _) | (with_reducible refine LeO.ite ?_ ?_) | (with_reducible refine LeO.bind ?_ (fun _ => ?_)) | apply spec_l04Fire.mono | exact LeO.none _ | refine LeO.ite ?_ ?_ | refine LeO.bind ?_ (fun _ => ?_)
def spec_l10Settle.l0 : Nat → Int → List Int → List Int → Int → List (S83) → Option (List Int × List Int)
 | 0, _, _, _, _, _ => none
 | k + 1, x2, x8, x9, x102000, x102001 => (spec_l10Unstable.f k x102000 x102001 x8 x2).bind fun t111 => (if t111 < 0 then (some (x8, x9)) else ((spec_l10Topple.f k x102000 x102001 x8 x2 t111).bind fun t112 => (if 0 ≤ t111 then (if t111 < (x9.length : Int) then (spec_l10Settle.l0 k x2 t112 (x9.set (t111 : Int).toNat (wrap64 ((rd x9 t111) + 1))) x102000 x102001) else (none)) else (none))))
def spec_l10Settle.f (k : Nat) (a0_0 : Int) (l0_1 : List (S83)) (l1 : List Int) (a2 : Int) : Option (List Int × List Int) := (some (([] : List Int) : List Int)).bind fun y102 => (if y102.length + l1.length < 17592186044416 then (if 0 ≤ a0_0 then (if (a0_0 : Int).toNat ≤ 35184372088832 then (spec_l10Settle.l0 k a2 (y102 ++ l1) (List.replicate (a0_0 : Int).toNat 0) a0_0 l0_1) else (none)) else (none)) else (none))
theorem spec_l10Settle.mono_l : ∀ k, (∀ y0 y1 y2 y3 y4, LeO (spec_l10Settle.l0 k y0 y1 y2 y3 y4) (spec_l10Settle.l0 (k + 1) y0 y1 y2 y3 y4))
 | 0 => fun _ _ _ _ _ r h => by simp [spec_l10Settle.l0] at h
 | k + 1 => by
  have ih0 := spec_l10Settle.mono_l k
  ·intro y0 y1 y2 y3 y4
   unfold spec_l10Settle.l0
   exact zm20
theorem spec_l10Settle.mono : ∀ a0 a1 a2 a3 k, LeO (spec_l10Settle.f k a0 a1 a2 a3) (spec_l10Settle.f (k + 1) a0 a1 a2 a3) := by
 intro a0 a1 a2 a3 k; have ih0 := spec_l10Settle.mono_l k; unfold spec_l10Settle.f; exact zm20
end Go.Proofs.Ytgobnfeahffnaaa.P
end

section
namespace Go.Proofs.Ytgobnfeahffnaaa.Cf
set_option linter.unusedVariables false
set_option linter.unusedSimpArgs false
open Go.RowKit Go.Proofs.YtgobnfeahffnaaaW.PrintWords Go.Proofs.Ytgobnfeahffnaaa.P
theorem Less.congr {n : Nat} {es : List E} (hes : ∀ e ∈ es, EOk n e) {d x : List Int} {s t : Int → Int} (h : Less es d s x) (he : ∀ w : Int, 0 ≤ w → w < n → s w = t w) : Less es d t x :=
  ⟨h.1, fun w h0 h1 => by rw [h.2 w h0 h1, lap_congr hes he]⟩
/-- Where the graph is valid. -/
structure Gr (n : Nat) (es : List E) (q : Int) : Prop where
  n1 : 1 ≤ n
  n6 : n ≤ 6
  hes : ∀ e ∈ es, EOk n e
  hel : es.length ≤ 12
  hj : Joined n es
  hq : 0 ≤ q ∧ q < n
theorem Gr.of {n : Nat} {es : List E} {q : Int} (h : GOk (n : Int) es) (hq : 0 ≤ q ∧ q < n) : Gr n es q := by
  obtain ⟨h1, _, h3⟩ := h
  unfold EsOk at h1
  exact ⟨by omega, by omega, h1.2.2.2, h1.2.2.1, h3, hq⟩
/-- A configuration before it topples. -/
structure Pre (n : Nat) (q : Int) (p : List Int) : Prop where
  len : p.length = n
  bd : ∀ v : Int, 0 ≤ v → v < n → v ≠ q → 0 ≤ rd p v ∧ rd p v ≤ 1000
  at_q : rd p q = 0
theorem Legal.bds {n : Nat} {es : List E} {q : Int} (g : Gr n es q) {p : List Int} (hp : Pre n q p) {s : Int → Int} (h : Legal n es q (rd p) s) :
    (∀ v : Int, 0 ≤ v → v < n → 0 ≤ s v ∧ s v ≤ 36000) ∧ sumN n (fun i => s (i : Int)) ≤ 216000 ∧ ∀ w : Int, 0 ≤ w → w < n → -500000 ≤ rd p w - lap es s w ∧ rd p w - lap es s w ≤ 500000 := by
  have h1 := h.small g.n6 g.hes g.hj g.hq (c := 1000) (by omega) (fun v h0 h1 h2 => (hp.bd v h0 h1 h2).2)
  refine ⟨fun v h0 h2 => by have := h1.1 v h0 h2; omega, by omega, fun w h0 h2 => ?_⟩
  have h3 := lap_bd g.hes g.hel (s := s) (L := 0) (S := 36000) (by omega) (fun v h0 h2 => by have := h1.1 v h0 h2; omega) w
  by_cases e : w = q
  · subst e
    have := hp.at_q
    omega
  · have := hp.bd w h0 h2 e
    omega
theorem settle_ex {n : Nat} {es : List E} {q : Int} (g : Gr n es q) {p : List Int} (hp : Pre n q p) : ∀ (k : Nat) (s : Int → Int), 216000 < sumN n (fun i => s (i : Int)) + k → Legal n es q (rd p) s → ∃ r, Settled n es q p r := by
  intro k
  induction k with
  | zero =>
    intro s hk hs
    have := (hs.bds g hp).2.1
    omega
  | succ k ih =>
    intro s hk hs
    by_cases st : Stable n es q (fun v => rd p v - lap es s v)
    · exact ⟨(repL n _, repL n s), s, hs, st, repL_rep n _, repL_rep n s⟩
    · unfold Stable at st
      simp only [Classical.not_forall] at st
      obtain ⟨v, v0, v1, v2, hv⟩ := st
      refine ih _ ?_ (hs.step v0 v1 v2 (by omega))
      rw [sumN_add n (fun i => s (i : Int)) (fun i => one v 1 (i : Int)), sumN_one' v0 v1]
      omega
theorem settleS_ok {n : Nat} {es : List E} {q : Int} (g : Gr n es q) {p : List Int} (hp : Pre n q p) : Settled n es q p (settleS n es q p) := by
  obtain ⟨r, hr⟩ := settle_ex g hp 216001 (fun _ => 0) (by simp only [sumN_zero]; omega) .zero
  rw [← hr.eq]
  exact hr
theorem settleS_bd {n : Nat} {es : List E} {q : Int} (g : Gr n es q) {p : List Int} (hp : Pre n q p) : ∀ x ∈ (settleS n es q p).2, 0 ≤ x ∧ x ≤ 36000 := by
  obtain ⟨s, hs, _, _, h4⟩ := settleS_ok g hp
  intro x hx
  obtain ⟨w, h0, h1, rfl⟩ := h4.mem hx
  exact (hs.bds g hp).1 w h0 h1
theorem implStab_l0 {n : Nat} {es : List E} {q : Int} (g : Gr n es q) {p : List Int} (hp : Pre n q p) : ∀ (k : Nat) (s : Int → Int) (x c : List Int), 216000 < sumN n (fun i => s (i : Int)) + k → Legal n es q (rd p) s → Rep n x (fun w => rd p w - lap es s w) → Rep n c s →
    Ep (fun f => impl_stabilize.l0 f q x c (unst n es q x x.length 0) (n : Int) es) (Settled n es q p) := by
  have hn := g.n6
  have hel := g.hel
  have hq := g.hq
  intro k
  induction k with
  | zero =>
    intro s x c hk hs _ _
    have := hs.bds g hp
    omega
  | succ k ih =>
    intro s x c hk hs hx hc
    have hb := hs.bds g hp
    have hxl := hx.1
    have hcl := hc.1
    refine Ep.up ?_
    simp only [impl_stabilize.l0]
    refine Ep.ite (fun h => ?_) (fun h => ?_)
    · have hu := unst_pos (es := es) (q := q) hxl (by omega)
      generalize unst n es q x x.length 0 = v at hu ⊢
      obtain ⟨h0, h1, h2, h3⟩ := hu
      have hcv := hb.1 v h0 h1
      have hxv := hb.2.2 v h0 h1
      have hvp := val_pos g.hj hq ⟨h0, h1⟩ h2
      have hx0 : rd x v = rd p v - lap es s v := hx.2 v h0 h1
      have hdv := Int.ediv_mul_le (rd x v) (b := val es v) (by omega)
      have hd0 : 1 ≤ rd x v / val es v := (Int.le_ediv_iff_mul_le hvp).2 (by omega)
      have hdm : rd x v / val es v ≤ rd x v := Int.ediv_le_self _ (by omega)
      have htd : Int.tdiv (rd x v) (val es v) = rd x v / val es v := Int.tdiv_eq_ediv_of_nonneg (by omega)
      have hbx : Bd x 1000000 := hx.bd fun w w0 w1 => by
        have := hb.2.2 w w0 w1
        omega
      refine Ep.pos (by omega) (Ep.pos (by omega) ?_)
      refine Ep.bind (implValence n es v (by omega)) ?_
      rintro _ rfl
      rw [valG_in ⟨h0, h1⟩]
      refine Ep.neg (by omega) ?_
      rw [htd, wrap_id (x := rd x v / val es v) (by omega) (by omega)]
      generalize rd x v / val es v = m at hdv hd0 hdm ⊢
      obtain ⟨m, rfl⟩ := Int.eq_ofNat_of_zero_le (a := m) (by omega)
      refine Ep.bind (implFire n es g.hes g.hel x v m hxl ⟨h0, h1⟩ (B := 1000000) (K := 1000000) ⟨by omega, by omega⟩ hbx (by omega) (by omega)) ?_
      rintro r ⟨hr, _⟩
      have hr' := hr.rep hxl
      have hrl := hr'.1
      have hs' := hs.many g.hes h0 h1 h2 m (by rw [← hx0]; exact hdv)
      have hsb := (hs'.bds g hp).1 v h0 h1
      simp only [one, if_true] at hsb
      refine Ep.pos (by omega) ?_
      rw [hc.2 v h0 h1, wrap_id (x := s v + (m : Int)) (by omega) (by omega)]
      refine Ep.bind (implUnst n es r q (by omega) (by omega)) ?_
      rintro _ rfl
      refine ih (fun w => s w + one v m w) r _ ?_ hs' (hr'.congr fun w w0 w1 => ?_) ((hc.set h0 h1 _).congr fun w _ _ => ?_)
      · rw [sum_grow h0 h1]
        omega
      · have h5 : rd x w = rd p w - lap es s w := hx.2 w w0 w1
        rw [h5, lap_add]
        omega
      · unfold one
        by_cases e : w = v
        · rw [if_pos e, if_pos e, e]
        · rw [if_neg e, if_neg e]
          omega
    · refine Ep.pos (by omega) (Ep.pos (by omega) (Ep.now ?_))
      refine ⟨s, hs, fun v h0 h1 h2 => ?_, hx.set hq.1 hq.2 0, hc⟩
      have h3 := unst_neg (es := es) (q := q) hxl (by omega) v h0 h1 h2
      rw [hx.2 v h0 h1] at h3
      exact h3
theorem implStab {n : Nat} {es : List E} {q : Int} (g : Gr n es q) {p : List Int} (hp : Pre n q p) : Ep (fun k => impl_stabilize.f k (n : Int) es p q) (· = settleS n es q p) := by
  have hn := g.n6
  have hl := hp.len
  have hel := g.hel
  simp only [impl_stabilize.f]
  refine Ep.bind0 (copy_eq p (by omega)) (Ep.pos (by omega) (Ep.pos (by omega) ?_))
  refine Ep.bind (implUnst n es p q (by omega) (by omega)) ?_
  rintro _ rfl
  refine (implStab_l0 g hp 216001 (fun _ => 0) p _ ?_ .zero ((Rep.self hl).congr fun w _ _ => ?_) (Rep.zero n)).mono fun r hr => hr.eq
  · simp only [sumN_zero]; omega
  · rw [lap_const (c := 0) (fun _ _ => ⟨rfl, rfl⟩)]
    omega
end Go.Proofs.Ytgobnfeahffnaaa.Cf
end

section
namespace Go.Proofs.Ytgobnfeahffnaaa.P
open Go.RowKit Go.Proofs.YtgobnfeahffnaaaW.PrintWords Go.Proofs.YtgobnfeahffnaaaW.PrintLast Go.Proofs.YtgobnfeahffnaaaW.PrintMore
attribute [local go_sem] max2_int min2_int max_two min_two max_three min_three max_four min_four
set_option linter.unusedVariables false
set_option linter.unusedSimpArgs false
mutual
def impl_Multiplicity.j0 : Nat → Int → Int → Bool → Int → List (S83) → Option (Int)
 | 0, _, _, _, _, _ => none
 | k + 1, x1, x2, x26, x102000, x102001 => if x26 = true then (some 0) else (impl_Multiplicity.l0 k x1 x2 0 x102001 (x102001.length : Int) 0)
def impl_Multiplicity.l0 : Nat → Int → Int → Int → List (S83) → Int → Int → Option (Int)
 | 0, _, _, _, _, _, _ => none
 | k + 1, x1, x2, x7, x28, x29, x30 => if x30 < x29 then (if 0 ≤ x30 then (if x30 < (x28.length : Int) then (if ((rd_T83 x28 x30).f0) = (mn x1 x2) then (if ((rd_T83 x28 x30).f1) = (mx x1 x2) then (impl_Multiplicity.l0 k x1 x2 (wrap64 (x7 + 1)) x28 x29 (wrap64 (x30 + 1))) else (impl_Multiplicity.l0 k x1 x2 x7 x28 x29 (wrap64 (x30 + 1)))) else (impl_Multiplicity.l0 k x1 x2 x7 x28 x29 (wrap64 (x30 + 1)))) else (none)) else (none)) else (some x7)
end
def impl_Multiplicity.f (k : Nat) (a0_0 : Int) (l0_1 : List (S83)) (a1 : Int) (a2 : Int) : Option (Int) := if (mn a1 a2) < 0 then (impl_Multiplicity.j0 k a1 a2 true a0_0 l0_1) else (if (mx a1 a2) ≥ a0_0 then (impl_Multiplicity.j0 k a1 a2 true a0_0 l0_1) else (impl_Multiplicity.j0 k a1 a2 (a1 == a2) a0_0 l0_1))
theorem impl_Multiplicity.mono_l : ∀ k, (∀ y0 y1 y2 y3 y4, LeO (impl_Multiplicity.j0 k y0 y1 y2 y3 y4) (impl_Multiplicity.j0 (k + 1) y0 y1 y2 y3 y4)) ∧ (∀ y0 y1 y2 y3 y4 y5, LeO (impl_Multiplicity.l0 k y0 y1 y2 y3 y4 y5) (impl_Multiplicity.l0 (k + 1) y0 y1 y2 y3 y4 y5))
 | 0 => ⟨fun _ _ _ _ _ r h => by simp [impl_Multiplicity.j0] at h, fun _ _ _ _ _ _ r h => by simp [impl_Multiplicity.l0] at h⟩
 | k + 1 => by
  obtain ⟨ih0, ih1⟩ := impl_Multiplicity.mono_l k
  refine ⟨?_, ?_⟩
  ·intro y0 y1 y2 y3 y4
   unfold impl_Multiplicity.j0
   exact zm1
  ·intro y0 y1 y2 y3 y4 y5
   unfold impl_Multiplicity.l0
   exact zm1
theorem impl_Multiplicity.mono : ∀ a0 a1 a2 a3 k, LeO (impl_Multiplicity.f k a0 a1 a2 a3) (impl_Multiplicity.f (k + 1) a0 a1 a2 a3) := by
 intro a0 a1 a2 a3 k; obtain ⟨ih0, ih1⟩ := impl_Multiplicity.mono_l k; unfold impl_Multiplicity.f; exact zm1
end Go.Proofs.Ytgobnfeahffnaaa.P
end

section
namespace Go.Proofs.Ytgobnfeahffnaaa.P
open Go.RowKit Go.Proofs.YtgobnfeahffnaaaW.PrintWords Go.Proofs.YtgobnfeahffnaaaW.PrintLast Go.Proofs.YtgobnfeahffnaaaW.PrintMore
attribute [local go_sem] max2_int min2_int max_two min_two max_three min_three max_four min_four
set_option linter.unusedVariables false
set_option linter.unusedSimpArgs false
def slices_Index_int_int.l0 : Nat → List Int → Int → Int → Int → Option (Int)
 | 0, _, _, _, _ => none
 | k + 1, x0, x1, x7, x8 => if x8 < x7 then (if 0 ≤ x8 then (if x8 < (x0.length : Int) then (if x1 = (rd x0 x8) then (some x8) else (slices_Index_int_int.l0 k x0 x1 x7 (wrap64 (x8 + 1)))) else (none)) else (none)) else (some (-1))
def slices_Index_int_int.f (k : Nat) (l0 : List Int) (a1 : Int) : Option (Int) := slices_Index_int_int.l0 k l0 a1 (l0.length : Int) 0
theorem slices_Index_int_int.mono_l : ∀ k, (∀ y0 y1 y2 y3, LeO (slices_Index_int_int.l0 k y0 y1 y2 y3) (slices_Index_int_int.l0 (k + 1) y0 y1 y2 y3))
 | 0 => fun _ _ _ _ r h => by simp [slices_Index_int_int.l0] at h
 | k + 1 => by
  have ih0 := slices_Index_int_int.mono_l k
  ·intro y0 y1 y2 y3
   unfold slices_Index_int_int.l0
   exact zm0
theorem slices_Index_int_int.mono : ∀ a0 a1 k, LeO (slices_Index_int_int.f k a0 a1) (slices_Index_int_int.f (k + 1) a0 a1) := by
 intro a0 a1 k; have ih0 := slices_Index_int_int.mono_l k; unfold slices_Index_int_int.f; exact zm0
def slices_Contains_int_int.f (k : Nat) (l0 : List Int) (a1 : Int) : Option (Bool) := (slices_Index_int_int.f k l0 a1).bind fun t101 => (some (decide (t101 ≥ 0)))
theorem slices_Contains_int_int.mono : ∀ a0 a1 k, LeO (slices_Contains_int_int.f k a0 a1) (slices_Contains_int_int.f (k + 1) a0 a1) := by
 intro a0 a1 k; unfold slices_Contains_int_int.f; repeat' first | (with_reducible apply slices_Index_int_int.mono) | (with_reducible exact LeO.refl _) | (with_reducible exact LeO.none _) | (with_reducible refine LeO.ite ?_ ?_) | (with_reducible refine LeO.bind ?_ (fun _ => ?_)) | apply slices_Index_int_int.mono | exact LeO.none _ | refine LeO.ite ?_ ?_ | refine LeO.bind ?_ (fun _ => ?_)
mutual
def spec_l05Burn.l0 : Nat → List Int → List Int → List Bool → Int → List (S83) → Option (List Int)
 | 0, _, _, _, _, _ => none
 | k + 1, x1, x7, x8, x102000, x102001 => spec_l05Burn.l1 k x1 x7 x8 (-1) (wrap64 (x102000 - 1)) x102000 x102001
def spec_l05Burn.l1 : Nat → List Int → List Int → List Bool → Int → Int → Int → List (S83) → Option (List Int)
 | 0, _, _, _, _, _, _, _ => none
 | k + 1, x1, x7, x8, x9, x10, x102000, x102001 => if x10 ≥ 0 then (spec_l05Burn.l2 k x1 x7 x8 x9 x10 0 0 x102000 x102001) else (if x9 < 0 then (some x7) else (if 0 ≤ x9 then (if x9 < (x8.length : Int) then (if x7.length < 17592186044416 then (spec_l05Burn.l0 k x1 (x7 ++ [x9]) (x8.set (x9 : Int).toNat true) x102000 x102001) else (none)) else (none)) else (none)))
def spec_l05Burn.l2 : Nat → List Int → List Int → List Bool → Int → Int → Int → Int → Int → List (S83) → Option (List Int)
 | 0, _, _, _, _, _, _, _, _, _ => none
 | k + 1, x1, x7, x8, x9, x10, x11, x12, x102000, x102001 => if x12 < x102000 then (if 0 ≤ x12 then (if x12 < (x8.length : Int) then (if rdOf false x8 x12 = true then ((spec_Multiplicity.f k x102000 x102001 x10 x12).bind fun t114 => (spec_l05Burn.l2 k x1 x7 x8 x9 x10 (wrap64 (x11 + t114)) (wrap64 (x12 + 1)) x102000 x102001)) else (spec_l05Burn.l2 k x1 x7 x8 x9 x10 x11 (wrap64 (x12 + 1)) x102000 x102001)) else (none)) else (none)) else (if 0 ≤ x10 then (if x10 < (x8.length : Int) then (if rdOf false x8 x10 = true then (spec_l05Burn.l1 k x1 x7 x8 x9 (wrap64 (x10 - 1)) x102000 x102001) else (if x10 < (x1.length : Int) then (if (rd x1 x10) < x11 then (spec_l05Burn.l1 k x1 x7 x8 x10 (wrap64 (x10 - 1)) x102000 x102001) else (spec_l05Burn.l1 k x1 x7 x8 x9 (wrap64 (x10 - 1)) x102000 x102001)) else (none))) else (none)) else (none))
end
def spec_l05Burn.f (k : Nat) (a0_0 : Int) (l0_1 : List (S83)) (l1 : List Int) (a2 : Int) : Option (List Int) := if 0 ≤ a0_0 then (if (a0_0 : Int).toNat ≤ 281474976710656 then ((some (List.replicate (a0_0 : Int).toNat false : List Bool)).bind fun y105 => (if 0 ≤ a2 then (if a2 < (y105.length : Int) then (spec_l05Burn.l0 k l1 (([a2] : List Int)) (y105.set (a2 : Int).toNat true) a0_0 l0_1) else (none)) else (none))) else (none)) else (none)
theorem spec_l05Burn.mono_l : ∀ k, (∀ y0 y1 y2 y3 y4, LeO (spec_l05Burn.l0 k y0 y1 y2 y3 y4) (spec_l05Burn.l0 (k + 1) y0 y1 y2 y3 y4)) ∧ (∀ y0 y1 y2 y3 y4 y5 y6, LeO (spec_l05Burn.l1 k y0 y1 y2 y3 y4 y5 y6) (spec_l05Burn.l1 (k + 1) y0 y1 y2 y3 y4 y5 y6)) ∧ (∀ y0 y1 y2 y3 y4 y5 y6 y7 y8, LeO (spec_l05Burn.l2 k y0 y1 y2 y3 y4 y5 y6 y7 y8) (spec_l05Burn.l2 (k + 1) y0 y1 y2 y3 y4 y5 y6 y7 y8))
 | 0 => ⟨fun _ _ _ _ _ r h => by simp [spec_l05Burn.l0] at h, fun _ _ _ _ _ _ _ r h => by simp [spec_l05Burn.l1] at h, fun _ _ _ _ _ _ _ _ _ r h => by simp [spec_l05Burn.l2] at h⟩
 | k + 1 => by
  obtain ⟨ih0, ih1, ih2⟩ := spec_l05Burn.mono_l k
  refine ⟨?_, ?_, ?_⟩
  ·intro y0 y1 y2 y3 y4
   unfold spec_l05Burn.l0
   exact zm10
  ·intro y0 y1 y2 y3 y4 y5 y6
   unfold spec_l05Burn.l1
   exact zm10
  ·intro y0 y1 y2 y3 y4 y5 y6 y7 y8
   unfold spec_l05Burn.l2
   exact zm10
theorem spec_l05Burn.mono : ∀ a0 a1 a2 a3 k, LeO (spec_l05Burn.f k a0 a1 a2 a3) (spec_l05Burn.f (k + 1) a0 a1 a2 a3) := by
 intro a0 a1 a2 a3 k; obtain ⟨ih0, ih1, ih2⟩ := spec_l05Burn.mono_l k; unfold spec_l05Burn.f; exact zm10
end Go.Proofs.Ytgobnfeahffnaaa.P
end

section
namespace Go.Proofs.Ytgobnfeahffnaaa.P
open Go.RowKit Go.Proofs.YtgobnfeahffnaaaW.PrintWords Go.Proofs.YtgobnfeahffnaaaW.PrintLast Go.Proofs.YtgobnfeahffnaaaW.PrintMore
attribute [local go_sem] max2_int min2_int max_two min_two max_three min_three max_four min_four
set_option linter.unusedVariables false
set_option linter.unusedSimpArgs false
mutual
def impl_burn.l0 : Nat → List Int → List Int → Int → List (S83) → Option (List Int)
 | 0, _, _, _, _ => none
 | k + 1, x1, x7, x102000, x102001 => impl_burn.l1 k x1 x7 (-1) 0 x102000 x102001
def impl_burn.l1 : Nat → List Int → List Int → Int → Int → Int → List (S83) → Option (List Int)
 | 0, _, _, _, _, _, _ => none
 | k + 1, x1, x7, x8, x9, x102000, x102001 => if x9 < x102000 then (impl_burn.j2 k x1 x7 x8 x9 (decide (x8 < 0)) x102000 x102001) else (impl_burn.j2 k x1 x7 x8 x9 false x102000 x102001)
def impl_burn.j2 : Nat → List Int → List Int → Int → Int → Bool → Int → List (S83) → Option (List Int)
 | 0, _, _, _, _, _, _, _ => none
 | k + 1, x1, x7, x8, x9, x22, x102000, x102001 => if x22 = true then (impl_burn.l2 k x1 x7 x8 x9 0 x7 (x7.length : Int) 0 x102000 x102001) else (if x8 < 0 then (some x7) else (if x7.length < 17592186044416 then (impl_burn.l0 k x1 (x7 ++ [x8]) x102000 x102001) else (none)))
def impl_burn.l2 : Nat → List Int → List Int → Int → Int → Int → List Int → Int → Int → Int → List (S83) → Option (List Int)
 | 0, _, _, _, _, _, _, _, _, _, _ => none
 | k + 1, x1, x7, x8, x9, x10, x25, x26, x27, x102000, x102001 => if x27 < x26 then (if 0 ≤ x27 then (if x27 < (x25.length : Int) then ((impl_Multiplicity.f k x102000 x102001 x9 (rd x25 x27)).bind fun t109 => (impl_burn.l2 k x1 x7 x8 x9 (wrap64 (x10 + t109)) x25 x26 (wrap64 (x27 + 1)) x102000 x102001)) else (none)) else (none)) else ((slices_Contains_int_int.f k x7 x9).bind fun t110 => (if t110 = true then (impl_burn.l1 k x1 x7 x8 (wrap64 (x9 + 1)) x102000 x102001) else (if 0 ≤ x9 then (if x9 < (x1.length : Int) then (if (rd x1 x9) < x10 then (impl_burn.l1 k x1 x7 x9 (wrap64 (x9 + 1)) x102000 x102001) else (impl_burn.l1 k x1 x7 x8 (wrap64 (x9 + 1)) x102000 x102001)) else (none)) else (none))))
end
def impl_burn.f (k : Nat) (a0_0 : Int) (l0_1 : List (S83)) (l1 : List Int) (a2 : Int) : Option (List Int) := impl_burn.l0 k l1 (([a2] : List Int)) a0_0 l0_1
theorem impl_burn.mono_l : ∀ k, (∀ y0 y1 y2 y3, LeO (impl_burn.l0 k y0 y1 y2 y3) (impl_burn.l0 (k + 1) y0 y1 y2 y3)) ∧ (∀ y0 y1 y2 y3 y4 y5, LeO (impl_burn.l1 k y0 y1 y2 y3 y4 y5) (impl_burn.l1 (k + 1) y0 y1 y2 y3 y4 y5)) ∧ (∀ y0 y1 y2 y3 y4 y5 y6, LeO (impl_burn.j2 k y0 y1 y2 y3 y4 y5 y6) (impl_burn.j2 (k + 1) y0 y1 y2 y3 y4 y5 y6)) ∧ (∀ y0 y1 y2 y3 y4 y5 y6 y7 y8 y9, LeO (impl_burn.l2 k y0 y1 y2 y3 y4 y5 y6 y7 y8 y9) (impl_burn.l2 (k + 1) y0 y1 y2 y3 y4 y5 y6 y7 y8 y9))
 | 0 => ⟨fun _ _ _ _ r h => by simp [impl_burn.l0] at h, fun _ _ _ _ _ _ r h => by simp [impl_burn.l1] at h, fun _ _ _ _ _ _ _ r h => by simp [impl_burn.j2] at h, fun _ _ _ _ _ _ _ _ _ _ r h => by simp [impl_burn.l2] at h⟩
 | k + 1 => by
  obtain ⟨ih0, ih1, ih2, ih3⟩ := impl_burn.mono_l k
  refine ⟨?_, ?_, ?_, ?_⟩
  ·intro y0 y1 y2 y3
   unfold impl_burn.l0
   exact zm5
  ·intro y0 y1 y2 y3 y4 y5
   unfold impl_burn.l1
   exact zm5
  ·intro y0 y1 y2 y3 y4 y5 y6
   unfold impl_burn.j2
   exact zm5
  ·intro y0 y1 y2 y3 y4 y5 y6 y7 y8 y9
   unfold impl_burn.l2
   exact zm5
theorem impl_burn.mono : ∀ a0 a1 a2 a3 k, LeO (impl_burn.f k a0 a1 a2 a3) (impl_burn.f (k + 1) a0 a1 a2 a3) := by
 intro a0 a1 a2 a3 k; obtain ⟨ih0, ih1, ih2, ih3⟩ := impl_burn.mono_l k; unfold impl_burn.f; exact zm5
end Go.Proofs.Ytgobnfeahffnaaa.P
end

section
namespace Go.Proofs.Ytgobnfeahffnaaa.Cf
set_option linter.unusedVariables false
set_option linter.unusedSimpArgs false
open Go.RowKit Go.Proofs.YtgobnfeahffnaaaW.PrintWords Go.Proofs.YtgobnfeahffnaaaW.PrintMore Go.Proofs.Ytgobnfeahffnaaa.P
theorem multE_alt {n : Int} {e : E} (h : EOk n e) {a b : Int} (hab : a ≠ b) : multE a b e = if e.f0 = mn a b ∧ e.f1 = mx a b then 1 else 0 := by
  unfold EOk at h
  unfold multE mn mx
  by_cases c : b < a
  · rw [if_pos c, if_neg (show ¬ a < b by omega)]
    by_cases x : e.f0 = b ∧ e.f1 = a
    · rw [if_pos (.inr x), if_pos x]
    · rw [if_neg (by omega), if_neg x]
  · rw [if_neg c, if_pos (show a < b by omega)]
    by_cases x : e.f0 = a ∧ e.f1 = b
    · rw [if_pos (.inl x), if_pos x]
    · rw [if_neg (by omega), if_neg x]
theorem mult_self {n : Int} {es : List E} (hes : ∀ e ∈ es, EOk n e) (a : Int) : mult es a a = 0 := by
  apply sumE_zero
  intro e he
  have h := hes e he
  unfold EOk at h
  unfold multE
  rw [if_neg (by omega)]
theorem mult_drop {es : List E} {i : Nat} (h : i < es.length) (a b : Int) : mult (es.drop i) a b = multE a b es[i] + mult (es.drop (i + 1)) a b := by
  rw [List.drop_eq_getElem_cons h]
  exact sumE_cons _ _ _
theorem specMult_l0 (n : Int) (es : List E) (hes : ∀ e ∈ es, EOk n e) (hel : es.length ≤ 12) (a b : Int) (hab : a ≠ b) : ∀ (d i : Nat) (c : Int), i + d = es.length → 0 ≤ c → c ≤ i → Ep (fun k => spec_Multiplicity.l0 k a b c es (es.length : Int) (i : Int)) (· = c + mult (es.drop i) a b) := by
  intro d
  induction d with
  | zero =>
    intro i c hi h0 h1
    refine Ep.up ?_
    simp only [spec_Multiplicity.l0]
    refine Ep.neg (by omega) (Ep.now ?_)
    rw [List.drop_of_length_le (by omega)]
    simp [mult, sumE]
  | succ d ih =>
    intro i c hi h0 h1
    have hlt : i < es.length := by omega
    have hk := hes _ (List.getElem_mem hlt)
    refine Ep.up ?_
    simp only [spec_Multiplicity.l0]
    refine Ep.pos (by omega) (Ep.pos (by omega) (Ep.pos (by omega) ?_))
    rw [rdE_get hlt, wrap_succ (by omega), wrap_id (x := c + 1) (by omega) (by omega), mult_drop hlt, multE_alt hk hab]
    refine Ep.ite (fun h => Ep.ite (fun h2 => ?_) (fun h2 => ?_)) (fun h => ?_)
    · rw [if_pos ⟨h, h2⟩]
      refine (ih (i + 1) (c + 1) (by omega) (by omega) (by omega)).mono ?_
      rintro _ rfl
      omega
    · rw [if_neg (fun x => h2 x.2)]
      refine (ih (i + 1) c (by omega) (by omega) (by omega)).mono ?_
      rintro _ rfl
      omega
    · rw [if_neg (fun x => h x.1)]
      refine (ih (i + 1) c (by omega) (by omega) (by omega)).mono ?_
      rintro _ rfl
      omega
theorem l02Vert_eq (n : Int) (es : List E) (v : Int) : spec_l02Vert.f n es v = some (decide (0 ≤ v ∧ v < n)) := by
  unfold spec_l02Vert.f
  by_cases h : v ≥ 0
  · rw [if_pos h]
    have : (0 ≤ v ∧ v < n) ↔ v < n := ⟨fun x => x.2, fun x => ⟨h, x⟩⟩
    simp only [this]
  · rw [if_neg h]
    have : ¬ (0 ≤ v ∧ v < n) := fun x => h x.1
    simp only [this, decide_false]
theorem specMult (n : Int) (es : List E) (hes : ∀ e ∈ es, EOk n e) (hel : es.length ≤ 12) (a b : Int) (ha : 0 ≤ a ∧ a < n) (hb : 0 ≤ b ∧ b < n) : Ep (fun k => spec_Multiplicity.f k n es a b) (· = mult es a b) := by
  simp only [spec_Multiplicity.f]
  refine Ep.bind0 (l02Vert_eq _ _ _) (Ep.pos (by simpa using ha) (Ep.bind0 (l02Vert_eq _ _ _) (Ep.pos (by simpa using hb) ?_)))
  refine Ep.up ?_
  simp only [spec_Multiplicity.j0]
  refine Ep.ite (fun h => Ep.now ?_) (fun h => ?_)
  · have : a = b := by simpa using h
    rw [this, mult_self hes]
  · have hab : a ≠ b := by simpa using h
    refine (specMult_l0 n es hes hel a b hab es.length 0 0 (by omega) (by omega) (by omega)).mono ?_
    rintro _ rfl
    simp
/-- The first place, counted from i; or -1. -/
def idxF (x : Int) : List Int → Nat → Int
  | [], _ => -1
  | a :: r, i => if x = a then i else idxF x r (i + 1)
/-- The list of truth values tells what burns. -/
def BRep (n : Nat) (x : List Bool) (b : List Int) : Prop := x.length = n ∧ ∀ w : Nat, w < n → rdOf false x (w : Int) = decide ((w : Int) ∈ b)
theorem BRep.push {n : Nat} {x : List Bool} {b : List Int} (h : BRep n x b) {v : Nat} (hv : v < n) : BRep n (x.set v true) (b ++ [(v : Int)]) := by
  refine ⟨by rw [List.length_set]; exact h.1, fun w hw => ?_⟩
  have := h.2 w hw
  simp only [rdOf, Int.toNat_natCast, List.getD_eq_getElem?_getD] at this ⊢
  by_cases e : v = w
  · subst e
    rw [List.getElem?_set_self (by have := h.1; omega)]
    simp
  · rw [List.getElem?_set_ne e, this]
    have : ¬ (w : Int) = v := by omega
    simp [this]
theorem BRep.start {n : Nat} {q : Int} (h0 : 0 ≤ q) (h1 : q < n) : BRep n ((List.replicate n false).set q.toNat true) [q] := by
  have h : BRep n (List.replicate n false) [] := ⟨by simp, fun w hw => by simp [rdOf, hw]⟩
  have := h.push (v := q.toNat) (by omega)
  have e : ((q.toNat : Nat) : Int) = q := by omega
  rw [e] at this
  exact this
/-- Where a code is read. -/
def Cur (b : List Int) (i : Int) : Prop := 0 ≤ i ∧ i ≤ b.length
theorem and255 (y : Int) : 0 ≤ Go.bits .and .i64 y 255 ∧ Go.bits .and .i64 y 255 ≤ 255 := by
  have h : ((BitVec.ofInt 64 y) &&& (BitVec.ofInt 64 255)).toNat ≤ 255 := by
    rw [BitVec.toNat_and]
    exact Nat.le_trans Nat.and_le_right (by decide)
  have e : Go.bits .and .i64 y 255 = (((BitVec.ofInt 64 y) &&& (BitVec.ofInt 64 255)).toNat : Int) := by
    show Go.IntKind.wrap .i64 _ = _
    have e0 : ∀ m : Nat, m ≤ 255 → Go.IntKind.wrap .i64 (m : Int) = m := by
      intro m hm
      exact (wraps_i64 m (by omega) (by omega))
    exact e0 _ h
  rw [e]
  omega
theorem byte_ok {b : List Int} (hb : b.length ≤ 1048576) {i : Int} (h : Int) (hc : Cur b i) : ∃ x i' h', spec_l01Byte.f b i h = some (x, i', h') ∧ 0 ≤ x ∧ x ≤ 255 ∧ Cur b i' := by
  unfold Cur at *
  unfold spec_l01Byte.f
  split
  · rw [if_pos hc.1]
    exact ⟨_, _, _, rfl, (and255 _).1, (and255 _).2, by rw [wrap_id (by omega) (by omega)]; omega⟩
  · exact ⟨_, _, _, rfl, (and255 _).1, (and255 _).2, hc⟩
theorem below_ok {b : List Int} (hb : b.length ≤ 1048576) {i : Int} (h : Int) (hc : Cur b i) {a : Int} (h0 : 1 ≤ a) (h1 : a ≤ 256) : ∃ x i' h', spec_l01Below.f b i h a = some (x, i', h') ∧ 0 ≤ x ∧ x < a ∧ Cur b i' := by
  obtain ⟨x, i', h', e, x0, x1, hc'⟩ := byte_ok hb h hc
  refine ⟨Int.tmod x a, i', h', ?_, Int.tmod_nonneg _ x0, Int.tmod_lt_of_pos _ (by omega), hc'⟩
  unfold spec_l01Below.f
  rw [if_neg (by omega), if_pos h1, e]
  show (if a = 0 then none else some _) = _
  rw [if_neg (by omega)]
theorem cur_l0 (b : List Int) (hb : b.length ≤ 1048576) : ∀ (d i : Nat) (h : Int), i + d = b.length → Ep (fun k => spec_l01New.l0 k b h (i : Int)) (fun r => r.1 = b ∧ Cur b r.2.1) := by
  intro d
  induction d with
  | zero =>
    intro i h hi
    refine Ep.up ?_
    simp only [spec_l01New.l0]
    exact Ep.neg (by omega) (Ep.now ⟨rfl, by unfold Cur; simp⟩)
  | succ d ih =>
    intro i h hi
    refine Ep.up ?_
    simp only [spec_l01New.l0]
    refine Ep.pos (by omega) (Ep.ite (fun _ => Ep.pos (by omega) ?_) (fun _ => Ep.now ⟨rfl, by unfold Cur; simp⟩))
    rw [wrap_succ (by omega)]
    exact ih (i + 1) _ (by omega)
theorem cur_new (b : List Int) (hb : b.length ≤ 1048576) : Ep (fun k => spec_l01New.f k b) (fun r => r.1 = b ∧ Cur b r.2.1) := by
  simp only [spec_l01New.f]
  exact cur_l0 b hb b.length 0 _ (by omega)
theorem cur2_l0 (b : List Int) (hb : b.length ≤ 1048576) (n : Nat) (hn : n ≤ 1000) : ∀ (d j : Nat) (i h : Int), j + d = n → Cur b i → Ep (fun k => spec_l21New.l0 k (n : Int) (j : Int) b i h) (fun r => r.1 = b ∧ Cur b r.2.1) := by
  intro d
  induction d with
  | zero =>
    intro j i h hj hc
    refine Ep.up ?_
    simp only [spec_l21New.l0]
    exact Ep.neg (by omega) (Ep.now ⟨rfl, hc⟩)
  | succ d ih =>
    intro j i h hj hc
    obtain ⟨x, i', h', e, _, _, hc'⟩ := byte_ok hb h hc
    refine Ep.up ?_
    simp only [spec_l21New.l0]
    refine Ep.pos (by omega) (Ep.bind0 e ?_)
    rw [wrap_succ (by omega)]
    exact ih (j + 1) i' h' (by omega) hc'
theorem cur2_new (b : List Int) (hb : b.length ≤ 1048576) (n : Nat) (hn : n ≤ 1000) : Ep (fun k => spec_l21New.f k b (n : Int)) (fun r => r.1 = b ∧ Cur b r.2.1) := by
  simp only [spec_l21New.f]
  refine Ep.bind (cur_new b hb) ?_
  rintro ⟨b', i, h⟩ ⟨rfl, hc⟩
  exact cur2_l0 _ hb n hn n 0 i h (by omega) hc
theorem makeNum (b : List Int) (hb : b.length ≤ 1048576) (n : Nat) (hn : n ≤ 1000) : Ep (fun k => spec_MakeNum.f k b (n : Int)) (fun r => 0 ≤ r ∧ r ≤ 65535) := by
  simp only [spec_MakeNum.f]
  refine Ep.bind (cur2_new b hb n hn) ?_
  rintro ⟨b', i, h⟩ ⟨rfl, hc⟩
  obtain ⟨x, i1, h1, e1, x0, x1, hc1⟩ := byte_ok hb h hc
  refine Ep.bind0 e1 ?_
  obtain ⟨y, i2, h2, e2, y0, y1, hc2⟩ := byte_ok hb h1 hc1
  refine Ep.bind0 e2 (Ep.now ?_)
  dsimp only
  rw [wrap_id (x := x * 256) (by omega) (by omega), wrap_id (by omega) (by omega)]
  omega
theorem addE_true (es : List E) (hel : es.length ≤ 12) (n : Int) (e : E) : ∀ (d i : Nat) (acc : List E), i + d = es.length → acc.length ≤ i + 1 → Ep (fun k => spec_AddEdge.l0 k true es (es.length : Int) (i : Int) e.f0 e.f1 n acc) (· = (n, acc ++ es.drop i, true)) := by
  intro d
  induction d with
  | zero =>
    intro i acc hi ha
    refine Ep.up ?_
    simp only [spec_AddEdge.l0]
    refine Ep.neg (by omega) (Ep.pos trivial (Ep.now ?_))
    rw [List.drop_of_length_le (by omega), List.append_nil]
  | succ d ih =>
    intro i acc hi ha
    have hlt : i < es.length := by omega
    refine Ep.up ?_
    simp only [spec_AddEdge.l0]
    refine Ep.pos (by omega) (Ep.pos (by omega) (Ep.pos (by omega) (Ep.pos trivial (Ep.pos (by omega) ?_))))
    rw [rdE_get hlt, wrap_succ (by omega)]
    refine (ih (i + 1) _ (by omega) (by simp; omega)).mono ?_
    rintro _ rfl
    rw [List.drop_eq_getElem_cons hlt, List.append_assoc]
    rfl
theorem insE_cons (e x : E) (r : List E) : insE e (x :: r) = if x.f0 > e.f0 ∨ (x.f0 = e.f0 ∧ x.f1 > e.f1) then e :: x :: r else x :: insE e r := rfl
theorem addE_l0 (es : List E) (hel : es.length ≤ 12) (n : Int) (e : E) : ∀ (d i : Nat) (acc : List E), i + d = es.length → acc.length ≤ i → Ep (fun k => spec_AddEdge.l0 k false es (es.length : Int) (i : Int) e.f0 e.f1 n acc) (· = (n, acc ++ insE e (es.drop i), true)) := by
  intro d
  induction d with
  | zero =>
    intro i acc hi ha
    refine Ep.up ?_
    simp only [spec_AddEdge.l0]
    refine Ep.neg (by omega) (Ep.neg (by simp) (Ep.pos (by omega) (Ep.now ?_)))
    rw [List.drop_of_length_le (by omega)]
    rfl
  | succ d ih =>
    intro i acc hi ha
    have hlt : i < es.length := by omega
    refine Ep.up ?_
    simp only [spec_AddEdge.l0]
    refine Ep.pos (by omega) (Ep.pos (by omega) (Ep.pos (by omega) (Ep.neg (by simp) ?_)))
    rw [rdE_get hlt, wrap_succ (by omega), List.drop_eq_getElem_cons hlt]
    have put : ∀ (hx : es[i].f0 > e.f0 ∨ (es[i].f0 = e.f0 ∧ es[i].f1 > e.f1)), Ep (fun k => (some (acc ++ [(⟨e.f0, e.f1⟩ : E)])).bind fun y => if y.length < 8796093022208 then spec_AddEdge.l0 k true es (es.length : Int) ((i + 1 : Nat) : Int) e.f0 e.f1 n (y ++ [(⟨es[i].f0, es[i].f1⟩ : E)]) else none) (· = (n, acc ++ insE e (es[i] :: es.drop (i + 1)), true)) := by
      intro hx
      refine Ep.bind0 rfl (Ep.pos (by simp; omega) ?_)
      refine (addE_true es hel n e d (i + 1) _ (by omega) (by simp; omega)).mono ?_
      rintro _ rfl
      unfold insE
      rw [if_pos hx]
      simp only [List.append_assoc, List.cons_append, List.nil_append]
    have go : ∀ (hx : ¬ (es[i].f0 > e.f0 ∨ (es[i].f0 = e.f0 ∧ es[i].f1 > e.f1))), Ep (fun k => spec_AddEdge.l0 k false es (es.length : Int) ((i + 1 : Nat) : Int) e.f0 e.f1 n (acc ++ [(⟨es[i].f0, es[i].f1⟩ : E)])) (· = (n, acc ++ insE e (es[i] :: es.drop (i + 1)), true)) := by
      intro hx
      refine (ih (i + 1) _ (by omega) (by simp; omega)).mono ?_
      rintro _ rfl
      rw [List.append_assoc, insE_cons, if_neg hx]
      rfl
    refine Ep.ite (fun h1 => Ep.pos (by omega) (put (.inl h1))) (fun h1 => Ep.ite (fun h2 => Ep.ite (fun h3 => Ep.pos (by omega) (put (.inr ⟨h2, h3⟩))) (fun h3 => Ep.pos (by omega) (go (by omega)))) (fun h2 => Ep.pos (by omega) (go (by omega))))
theorem addE_ok {n : Int} {es : List E} (hg : GOk n es) (a b : Int) : Ep (fun k => spec_AddEdge.f k n es a b) (fun r => r.2.2 = true → r.1 = n ∧ GOk n r.2.1) := by
  have hG := hg.1
  unfold EsOk at hG
  have hw : wrap64 (n - 1) = n - 1 := wrap_id (by omega) (by omega)
  have no : Ep (fun k => spec_AddEdge.j0 k a b true n es) (fun r => r.2.2 = true → r.1 = n ∧ GOk n r.2.1) := by
    refine Ep.up ?_
    simp only [spec_AddEdge.j0]
    exact Ep.pos trivial (Ep.now (fun h => by cases h))
  simp only [spec_AddEdge.f]
  refine Ep.bind (specGraph n es) ?_
  rintro _ rfl
  rw [gOk_iff.2 hg]
  refine Ep.pos rfl (Ep.bind0 (l01In_eq _ _ _) (Ep.ite (fun h1 => ?_) (fun _ => no)))
  refine Ep.bind0 (l01In_eq _ _ _) (Ep.ite (fun h2 => ?_) (fun _ => no))
  rw [decide_eq_true_eq, hw] at h1 h2
  refine Ep.ite (fun _ => no) (fun h3 => ?_)
  refine Ep.up ?_
  simp only [spec_AddEdge.j0]
  refine Ep.ite (fun _ => Ep.now (fun h => by cases h)) (fun h4 => ?_)
  have h5 : es.length ≠ 12 := by
    intro h
    rw [h] at h4
    exact h4 rfl
  refine (addE_l0 es hG.2.2.1 n ⟨mn a b, mx a b⟩ es.length 0 [] (by omega) (by simp)).mono ?_
  rintro _ rfl _
  refine ⟨rfl, gOk_ins hg h5 ?_⟩
  unfold EOk mn mx
  dsimp only
  split <;> split <;> omega
/-- The rows below a; of row a what lies below b. -/
def hTo (t : List E) (n a b : Nat) : List E := (List.range a).flatMap (hRow t n) ++ (List.range b).flatMap fun c => if a < c then List.replicate (mult t a c).toNat ⟨a, c⟩ else []
theorem hTo_start (t : List E) (n a : Nat) : hTo t n a (a + 1) = (List.range a).flatMap (hRow t n) := by
  have h : ((List.range (a + 1)).flatMap fun c => if a < c then List.replicate (mult t a c).toNat (⟨a, c⟩ : E) else []) = [] := List.flatMap_eq_nil_iff.2 fun c hc => by rw [if_neg (by have := List.mem_range.1 hc; omega)]
  unfold hTo
  rw [h, List.append_nil]
theorem hTo_end (t : List E) (n a : Nat) : hTo t n a n = (List.range (a + 1)).flatMap (hRow t n) := by
  unfold hTo
  rw [List.range_succ, List.flatMap_append]
  simp [hRow]
theorem hTo_next (t : List E) (n a b : Nat) (h : a < b) : hTo t n a (b + 1) = hTo t n a b ++ List.replicate (mult t a b).toNat ⟨a, b⟩ := by
  unfold hTo
  rw [List.range_succ (n := b), List.flatMap_append, ← List.append_assoc]
  simp [h]
theorem len_flat_le (C : Nat) (f : Nat → List E) (h : ∀ i, (f i).length ≤ C) : ∀ n : Nat, ((List.range n).flatMap f).length ≤ C * n := by
  intro n
  induction n with
  | zero => simp
  | succ n ih =>
    rw [List.range_succ, List.flatMap_append, List.length_append]
    have := h n
    simp only [List.flatMap_cons, List.flatMap_nil, List.append_nil]
    rw [Nat.mul_succ]
    omega
theorem hTo_len (t : List E) (ht : t.length ≤ 12) (n a b : Nat) (hn : n ≤ 6) (ha : a ≤ 6) (hb : b ≤ 6) : (hTo t n a b).length ≤ 1000 := by
  have hr : ∀ a c : Nat, (if a < c then List.replicate (mult t a c).toNat (⟨a, c⟩ : E) else []).length ≤ 12 := by
    intro a c
    have := mult_le t a c
    split
    · rw [List.length_replicate]; omega
    · simp
  have h1 : ∀ a, (hRow t n a).length ≤ 72 := fun a => Nat.le_trans (len_flat_le 12 _ (hr a) n) (by omega)
  have h2 := len_flat_le 72 (hRow t n) h1 a
  have h3 := len_flat_le 12 _ (hr a) b
  unfold hTo
  rw [List.length_append]
  omega
/-- What is drawn. -/
def DrawOk (b : List Int) (most : Int) (r : Int × List E × Int × Int) : Prop := ∃ n : Nat, r.1 = n ∧ 2 ≤ n ∧ (n : Int) ≤ most ∧ GOk (n : Int) r.2.1 ∧ Cur b r.2.2.1
theorem draw_l4 {b : List Int} (hb : b.length ≤ 1048576) {n : Nat} (h2 : 2 ≤ n) (h6 : n ≤ 6) {most : Int} (hm : (n : Int) ≤ most) : ∀ (c : Nat) (es : List E) (i h : Int), c ≤ 10 → GOk (n : Int) es → Cur b i → Ep (fun k => spec_l02Draw.l4 k (n : Int) (c : Int) b i h (n : Int) es) (DrawOk b most) := by
  intro c
  induction c with
  | zero =>
    intro es i h _ hg hc
    refine Ep.up ?_
    simp only [spec_l02Draw.l4]
    exact Ep.neg (by omega) (Ep.now ⟨n, rfl, h2, hm, hg, hc⟩)
  | succ c ih =>
    intro es i h hc10 hg hc
    refine Ep.up ?_
    simp only [spec_l02Draw.l4]
    refine Ep.pos (by omega) ?_
    obtain ⟨x, i1, h1, e1, x0, x1, hc1⟩ := below_ok hb h hc (a := (n : Int)) (by omega) (by omega)
    refine Ep.bind0 e1 ?_
    rw [show wrap64 ((n : Int) - 1) = n - 1 from wrap_id (by omega) (by omega)]
    obtain ⟨y, i2, h2', e2, y0, y1, hc2⟩ := below_ok hb h1 hc1 (a := (n : Int) - 1) (by omega) (by omega)
    refine Ep.bind0 e2 (Ep.neg (by omega) ?_)
    rw [show wrap64 (((c + 1 : Nat) : Int) - 1) = c from by rw [wrap_id (by omega) (by omega)]; omega]
    refine Ep.bind (addE_ok hg _ _) ?_
    rintro ⟨n', es', ok⟩ hr
    refine Ep.ite (fun h3 => ?_) (fun _ => ih es i2 h2' (by omega) hg hc2)
    obtain ⟨h4, h5⟩ := hr h3
    dsimp only at h4 h5
    subst h4
    exact ih es' i2 h2' (by omega) h5 hc2
theorem draw_l3 {b : List Int} {n a c : Int} {t : List E} {i h : Int} {Q : Int × List E × Int × Int → Prop} : ∀ (m : Nat) (acc : List E), m ≤ 20 → acc.length + m ≤ 2000 → Ep (fun k => spec_l02Draw.l2 k n a (wrap64 (c + 1)) b i h n t n (acc ++ List.replicate m ⟨a, c⟩)) Q →
    Ep (fun k => spec_l02Draw.l3 k n a c (m : Int) b i h n t n acc) Q := by
  intro m
  induction m with
  | zero =>
    intro acc _ hl hk
    refine Ep.up ?_
    simp only [spec_l02Draw.l3]
    refine Ep.neg (by omega) ?_
    simpa using hk
  | succ m ih =>
    intro acc hm hl hk
    refine Ep.up ?_
    simp only [spec_l02Draw.l3]
    refine Ep.pos (by omega) (Ep.pos (by omega) ?_)
    rw [show wrap64 (((m + 1 : Nat) : Int) - 1) = m from by rw [wrap_id (by omega) (by omega)]; omega]
    refine ih _ (by omega) (by simp; omega) ?_
    rw [List.append_assoc, show [(⟨a, c⟩ : E)] ++ List.replicate m ⟨a, c⟩ = List.replicate (m + 1) ⟨a, c⟩ from rfl]
    exact hk
theorem draw_l2 {b : List Int} {n : Nat} (h6 : n ≤ 6) {t : List E} (ht : TreeE n t) {i h : Int} {a : Nat} (ha : a < n) {Q : Int × List E × Int × Int → Prop}
    (hk : Ep (fun k => spec_l02Draw.l1 k (n : Int) ((a + 1 : Nat) : Int) b i h (n : Int) t (n : Int) ((List.range (a + 1)).flatMap (hRow t n))) Q) : ∀ (d c : Nat), c + d = n → a < c →
    Ep (fun k => spec_l02Draw.l2 k (n : Int) (a : Int) (c : Int) b i h (n : Int) t (n : Int) (hTo t n a c)) Q := by
  have hl := ht.len
  intro d
  induction d with
  | zero =>
    intro c hc hac
    refine Ep.up ?_
    simp only [spec_l02Draw.l2]
    obtain rfl : c = n := by omega
    refine Ep.neg (by omega) ?_
    rw [wrap_succ (by omega), hTo_end]
    exact hk
  | succ d ih =>
    intro c hc hac
    refine Ep.up ?_
    simp only [spec_l02Draw.l2]
    refine Ep.pos (by omega) (Ep.bind (specMult (n : Int) t ht.ok (by omega) (a : Int) (c : Int) (by omega) (by omega)) ?_)
    rintro _ rfl
    have hm0 := mult_nonneg t (a : Int) (c : Int)
    have hm1 := mult_le t (a : Int) (c : Int)
    have hlen := hTo_len t (by omega) n a c h6 (by omega) (by omega)
    obtain ⟨m, hm⟩ := Int.eq_ofNat_of_zero_le hm0
    rw [hm]
    refine draw_l3 m _ (by omega) (by omega) ?_
    rw [wrap_succ (by omega)]
    have := ih (c + 1) (by omega) (by omega)
    rw [hTo_next t n a c hac, hm] at this
    exact this
theorem draw_l1 {b : List Int} (hb : b.length ≤ 1048576) {n : Nat} (h2 : 2 ≤ n) (h6 : n ≤ 6) {most : Int} (hm : (n : Int) ≤ most) {t : List E} (ht : TreeE n t) {i h : Int} (hc : Cur b i) : ∀ (d a : Nat), a + d = n →
    Ep (fun k => spec_l02Draw.l1 k (n : Int) (a : Int) b i h (n : Int) t (n : Int) ((List.range a).flatMap (hRow t n))) (DrawOk b most) := by
  intro d
  induction d with
  | zero =>
    intro a ha
    refine Ep.up ?_
    simp only [spec_l02Draw.l1]
    obtain rfl : a = n := by omega
    refine Ep.neg (by omega) ?_
    obtain ⟨x, i1, h1, e1, x0, x1, hc1⟩ := below_ok hb h hc (a := 5) (by omega) (by omega)
    refine Ep.bind0 e1 ?_
    obtain ⟨c, rfl⟩ := Int.eq_ofNat_of_zero_le x0
    exact draw_l4 hb h2 h6 hm c _ i1 h1 (by omega) (ht.gOk h6) hc1
  | succ d ih =>
    intro a ha
    refine Ep.up ?_
    simp only [spec_l02Draw.l1]
    refine Ep.pos (by omega) ?_
    rw [wrap_succ (by omega), ← hTo_start]
    exact draw_l2 h6 ht (by omega) (ih (a + 1) (by omega)) (n - (a + 1)) (a + 1) (by omega) (by omega)
theorem draw_l0 {b : List Int} (hb : b.length ≤ 1048576) {n : Nat} (h2 : 2 ≤ n) (h6 : n ≤ 6) {most : Int} (hm : (n : Int) ≤ most) : ∀ (d v : Nat) (t : List E) (i h : Int), v + d = n → 1 ≤ v → TreeE v t → Cur b i →
    Ep (fun k => spec_l02Draw.l0 k (n : Int) (v : Int) b i h (v : Int) t) (DrawOk b most) := by
  intro d
  induction d with
  | zero =>
    intro v t i h hv h1 ht hc
    refine Ep.up ?_
    simp only [spec_l02Draw.l0]
    obtain rfl : v = n := by omega
    refine Ep.neg (by omega) ?_
    exact draw_l1 hb h2 h6 hm ht hc v 0 (by omega)
  | succ d ih =>
    intro v t i h hv h1 ht hc
    have hl := ht.len
    refine Ep.up ?_
    simp only [spec_l02Draw.l0]
    obtain ⟨x, i1, h1', e1, x0, x1, hc1⟩ := below_ok hb h hc (a := (v : Int)) (by omega) (by omega)
    refine Ep.pos (by omega) (Ep.bind0 e1 (Ep.pos (by omega) ?_))
    rw [wrap_succ (by omega)]
    exact ih (v + 1) _ i1 h1' (by omega) (by omega) (ht.next x0 x1) hc1
theorem draw_ok {b : List Int} (hb : b.length ≤ 1048576) {i : Int} (h : Int) (hc : Cur b i) {most : Int} (h3 : 2 ≤ most) (h5 : most ≤ 6) : Ep (fun k => spec_l02Draw.f k b i h most) (DrawOk b most) := by
  simp only [spec_l02Draw.f]
  rw [wrap_id (x := most - 1) (by omega) (by omega)]
  obtain ⟨x, i1, h1, e1, x0, x1, hc1⟩ := below_ok hb h hc (a := most - 1) (by omega) (by omega)
  refine Ep.bind0 e1 ?_
  dsimp only
  obtain ⟨c, rfl⟩ := Int.eq_ofNat_of_zero_le x0
  rw [show wrap64 (2 + (c : Int)) = ((2 + c : Nat) : Int) from by rw [wrap_id (by omega) (by omega)]; omega]
  exact draw_l0 hb (by omega) (by omega) (by omega) (1 + c) 1 [] i1 h1 (by omega) (by omega) .start hc1
theorem makeGraph (b : List Int) (hb : b.length ≤ 1048576) : Ep (fun k => spec_MakeGraph.f k b) (fun r => ∃ n : Nat, r.1 = n ∧ 2 ≤ n ∧ n ≤ 5 ∧ GOk (n : Int) r.2) := by
  simp only [spec_MakeGraph.f]
  refine Ep.bind (cur_new b hb) ?_
  rintro ⟨b', i, h⟩ ⟨rfl, hc⟩
  refine Ep.bind (P := DrawOk b' 5) ?_ ?_
  · simp only [spec_l02Graph.f]
    refine Ep.bind (draw_ok hb h hc (by omega) (by omega)) ?_
    intro a ha
    exact Ep.now ha
  · rintro ⟨n', es, _, _⟩ ⟨n, hn, h2, h5, hg, _⟩
    exact Ep.now ⟨n, hn, h2, by omega, hg⟩
theorem pile_l0 {b : List Int} (hb : b.length ≤ 1048576) {n : Nat} (h6 : n ≤ 6) {q : Int} (hq : 0 ≤ q ∧ q < n) (es : List E) : ∀ (d v : Nat) (x : List Int) (i h : Int), v + d = n → x.length = v → (∀ y ∈ x, 0 ≤ y ∧ y ≤ 6) → Cur b i →
    Ep (fun k => spec_l10Draw.l0 k q x (v : Int) b i h (n : Int) es) (fun r => ∃ x : List Int, x.length = n ∧ (∀ y ∈ x, 0 ≤ y ∧ y ≤ 6) ∧ r.1 = x.set q.toNat 0) := by
  intro d
  induction d with
  | zero =>
    intro v x i h hv hx hy hc
    refine Ep.up ?_
    simp only [spec_l10Draw.l0]
    refine Ep.neg (by omega) (Ep.pos (by omega) (Ep.pos (by omega) (Ep.pos (by omega) (Ep.now ?_))))
    exact ⟨x, by omega, hy, rfl⟩
  | succ d ih =>
    intro v x i h hv hx hy hc
    obtain ⟨z, i1, h1, e1, z0, z1, hc1⟩ := below_ok hb h hc (a := 7) (by omega) (by omega)
    refine Ep.up ?_
    simp only [spec_l10Draw.l0]
    refine Ep.pos (by omega) (Ep.bind0 e1 (Ep.pos (by omega) ?_))
    rw [wrap_succ (by omega)]
    refine ih (v + 1) _ i1 h1 (by omega) (by simp; omega) ?_ hc1
    intro y hy'
    rcases List.mem_append.1 hy' with hy' | hy'
    · exact hy y hy'
    · rw [List.mem_singleton.1 hy']
      dsimp only
      omega
/-- A drawn configuration. -/
structure Pl (n : Nat) (q : Int) (p : List Int) : Prop where
  len : p.length = n
  bd : ∀ y ∈ p, 0 ≤ y ∧ y ≤ 6
  hq : rd p q = 0
theorem makePile (b : List Int) (hb : b.length ≤ 1048576) (m : Nat) (hm : m ≤ 1000) {n : Nat} (h6 : n ≤ 6) {q : Int} (hq : 0 ≤ q ∧ q < n) (es : List E) : Ep (fun k => spec_MakePile.f k b (m : Int) (n : Int) es q) (Pl n q) := by
  simp only [spec_MakePile.f]
  refine Ep.bind (cur2_new b hb m hm) ?_
  rintro ⟨b', i, h⟩ ⟨rfl, hc⟩
  refine Ep.bind (P := fun r => ∃ x : List Int, x.length = n ∧ (∀ y ∈ x, 0 ≤ y ∧ y ≤ 6) ∧ r.1 = x.set q.toNat 0) ?_ ?_
  · simp only [spec_l10Draw.f]
    exact pile_l0 hb h6 hq es n 0 [] i h (by omega) rfl (by simp) hc
  · rintro ⟨p, _, _⟩ ⟨x, hx, hy, hp⟩
    dsimp only at hp
    subst hp
    refine Ep.now ⟨by simpa using hx, fun y hm => ?_, ?_⟩
    · rcases List.mem_or_eq_of_mem_set hm with h | h
      · exact hy y h
      · omega
    · have hl : q.toNat < x.length := by omega
      unfold rd
      simp [List.getD, List.getElem?_set_self hl]
end Go.Proofs.Ytgobnfeahffnaaa.Cf
end

section
namespace Go.Proofs.Ytgobnfeahffnaaa.P
open Go.RowKit Go.Proofs.YtgobnfeahffnaaaW.PrintWords Go.Proofs.YtgobnfeahffnaaaW.PrintLast Go.Proofs.YtgobnfeahffnaaaW.PrintMore
attribute [local go_sem] max2_int min2_int max_two min_two max_three min_three max_four min_four
set_option linter.unusedVariables false
set_option linter.unusedSimpArgs false
def laws_has.l0 : Nat → Int → List Int → Int → Int → Option (Bool)
 | 0, _, _, _, _ => none
 | k + 1, x1, x7, x8, x9 => if x9 < x8 then (if 0 ≤ x9 then (if x9 < (x7.length : Int) then (if (rd x7 x9) = x1 then (some true) else (laws_has.l0 k x1 x7 x8 (wrap64 (x9 + 1)))) else (none)) else (none)) else (some false)
def laws_has.f (k : Nat) (l0 : List Int) (a1 : Int) : Option (Bool) := laws_has.l0 k a1 l0 (l0.length : Int) 0
theorem laws_has.mono_l : ∀ k, (∀ y0 y1 y2 y3, LeO (laws_has.l0 k y0 y1 y2 y3) (laws_has.l0 (k + 1) y0 y1 y2 y3))
 | 0 => fun _ _ _ _ r h => by simp [laws_has.l0] at h
 | k + 1 => by
  have ih0 := laws_has.mono_l k
  ·intro y0 y1 y2 y3
   unfold laws_has.l0
   exact zm0
theorem laws_has.mono : ∀ a0 a1 k, LeO (laws_has.f k a0 a1) (laws_has.f (k + 1) a0 a1) := by
 intro a0 a1 k; have ih0 := laws_has.mono_l k; unfold laws_has.f; exact zm0
end Go.Proofs.Ytgobnfeahffnaaa.P
end

section
namespace Go.Proofs.Ytgobnfeahffnaaa.Cf
set_option linter.unusedVariables false
set_option linter.unusedSimpArgs false
open Go.RowKit Go.Proofs.YtgobnfeahffnaaaW.PrintWords Go.Proofs.Ytgobnfeahffnaaa.P
theorem same_l0 (a b : List Int) (hl : a.length = b.length) (hb : a.length ≤ 1048576) : ∀ (d i : Nat), i + d = a.length → Ep (fun k => laws_same.l0 k b a (a.length : Int) (i : Int)) (· = decide (a.drop i = b.drop i)) := by
  intro d
  induction d with
  | zero =>
    intro i hi
    refine Ep.up ?_
    simp only [laws_same.l0]
    refine Ep.neg (by omega) (Ep.now ?_)
    rw [List.drop_of_length_le (by omega), List.drop_of_length_le (by omega)]
    rfl
  | succ d ih =>
    intro i hi
    have h1 : i < a.length := by omega
    have h2 : i < b.length := by omega
    refine Ep.up ?_
    simp only [laws_same.l0]
    refine Ep.pos (by omega) (Ep.pos (by omega) (Ep.pos (by omega) (Ep.pos (by omega) ?_)))
    rw [rd_get h1, rd_get h2, wrap_succ (by omega), List.drop_eq_getElem_cons h1, List.drop_eq_getElem_cons h2]
    refine Ep.ite (fun h => (ih (i + 1) (by omega)).mono ?_) (fun h => Ep.now ?_)
    · rintro _ rfl
      rw [h]
      simp only [List.cons.injEq, true_and]
    · rw [eq_comm, decide_eq_false_iff_not]
      intro e
      exact h (List.cons.inj e).1
theorem same_ok (a b : List Int) (hb : a.length ≤ 1048576) : Ep (fun k => laws_same.f k a b) (· = decide (a = b)) := by
  simp only [laws_same.f]
  refine Ep.ite (fun h => ?_) (fun h => Ep.now ?_)
  · simpa using same_l0 a b (by omega) hb a.length 0 (by omega)
  · rw [eq_comm, decide_eq_false_iff_not]
    intro e
    exact h (by rw [e])
theorem same_yes {a b : List Int} (h : a = b) (hb : a.length ≤ 1048576) : Ep (fun k => laws_same.f k a b) (· = true) := (same_ok a b hb).mono (by rintro _ rfl; simpa using h)
theorem Pl.bd6 {n : Nat} {q : Int} {p : List Int} (h : Pl n q p) : ∀ v : Int, 0 ≤ v → v < n → 0 ≤ rd p v ∧ rd p v ≤ 6 := fun v v0 v1 => by
  obtain ⟨i, rfl⟩ := Int.eq_ofNat_of_zero_le v0
  have hi : i < p.length := by have := h.len; omega
  rw [rd_get hi]
  exact h.bd _ (List.getElem_mem hi)
end Go.Proofs.Ytgobnfeahffnaaa.Cf
end

section
namespace Go.Proofs.Ytgobnfeahffnaaa.P
open Go.RowKit Go.Proofs.YtgobnfeahffnaaaW.PrintWords Go.Proofs.YtgobnfeahffnaaaW.PrintLast Go.Proofs.YtgobnfeahffnaaaW.PrintMore
attribute [local go_sem] max2_int min2_int max_two min_two max_three min_three max_four min_four
set_option linter.unusedVariables false
set_option linter.unusedSimpArgs false
def spec_DegreeOf.l0 : Nat → Int → List Int → Int → Int → Option (Int)
 | 0, _, _, _, _ => none
 | k + 1, x3, x6, x7, x8 => if x8 < x7 then (if 0 ≤ x8 then (if x8 < (x6.length : Int) then (spec_DegreeOf.l0 k (wrap64 (x3 + (rd x6 x8))) x6 x7 (wrap64 (x8 + 1))) else (none)) else (none)) else (some x3)
def spec_DegreeOf.f (k : Nat) (l0 : List Int) : Option (Int) := spec_DegreeOf.l0 k 0 l0 (l0.length : Int) 0
theorem spec_DegreeOf.mono_l : ∀ k, (∀ y0 y1 y2 y3, LeO (spec_DegreeOf.l0 k y0 y1 y2 y3) (spec_DegreeOf.l0 (k + 1) y0 y1 y2 y3))
 | 0 => fun _ _ _ _ r h => by simp [spec_DegreeOf.l0] at h
 | k + 1 => by
  have ih0 := spec_DegreeOf.mono_l k
  ·intro y0 y1 y2 y3
   unfold spec_DegreeOf.l0
   exact zm0
theorem spec_DegreeOf.mono : ∀ a0 k, LeO (spec_DegreeOf.f k a0) (spec_DegreeOf.f (k + 1) a0) := by
 intro a0 k; have ih0 := spec_DegreeOf.mono_l k; unfold spec_DegreeOf.f; exact zm0
end Go.Proofs.Ytgobnfeahffnaaa.P
end

section
namespace Go.Proofs.Ytgobnfeahffnaaa.Cf
set_option linter.unusedVariables false
set_option linter.unusedSimpArgs false
open Go.RowKit Go.Proofs.YtgobnfeahffnaaaW.PrintWords Go.Proofs.Ytgobnfeahffnaaa.P
/-- The numbers are no greater than a thousand million. -/
def Mod (l : List Int) : Prop := ∀ x ∈ l, -1000000000 ≤ x ∧ x ≤ 1000000000
theorem implSum_l0 (l : List Int) (hl : l.length ≤ 1048576) (hm : Mod l) : ∀ (d i : Nat) (a : Int), i + d = l.length → -(1000000000 * (i : Int)) ≤ a → a ≤ 1000000000 * (i : Int) → Ep (fun k => impl_sumOf.l0 k a l (l.length : Int) (i : Int)) (· = a + (l.drop i).sum) := by
  intro d
  induction d with
  | zero =>
    intro i a hi h0 h1
    refine Ep.up ?_
    simp only [impl_sumOf.l0]
    refine Ep.neg (by omega) (Ep.now ?_)
    rw [List.drop_of_length_le (by omega)]
    simp
  | succ d ih =>
    intro i a hi h0 h1
    have hlt : i < l.length := by omega
    have hx := hm _ (List.getElem_mem hlt)
    refine Ep.up ?_
    simp only [impl_sumOf.l0]
    refine Ep.pos (by omega) (Ep.pos (by omega) (Ep.pos (by omega) ?_))
    rw [rd_get hlt, wrap_succ (by omega), wrap_id (by omega) (by omega), List.drop_eq_getElem_cons hlt]
    refine (ih (i + 1) _ (by omega) (by omega) (by omega)).mono ?_
    rintro _ rfl
    rw [List.sum_cons]
    omega
theorem implSum (l : List Int) (hl : l.length ≤ 1048576) (hm : Mod l) : Ep (fun k => impl_sumOf.f k l) (· = l.sum) := by
  simp only [impl_sumOf.f]
  refine (implSum_l0 l hl hm l.length 0 0 (by omega) (by omega) (by omega)).mono ?_
  rintro _ rfl
  simp
end Go.Proofs.Ytgobnfeahffnaaa.Cf
end

section
namespace Go.Proofs.Ytgobnfeahffnaaa.P
open Go.RowKit Go.Proofs.YtgobnfeahffnaaaW.PrintWords Go.Proofs.YtgobnfeahffnaaaW.PrintLast Go.Proofs.YtgobnfeahffnaaaW.PrintMore
attribute [local go_sem] max2_int min2_int max_two min_two max_three min_three max_four min_four
set_option linter.unusedVariables false
set_option linter.unusedSimpArgs false
def spec_Stabilize.f (k : Nat) (a0_0 : Int) (l0_1 : List (S83)) (l1 : List Int) (a2 : Int) : Option (List Int × List Int × Bool) := (spec_PileOk.f k a0_0 l0_1 l1 a2).bind fun t102 => (if t102 = true then ((spec_l10Settle.f k a0_0 l0_1 l1 a2).bind fun bt103 => (some (bt103.1, bt103.2, true))) else (some (([] : List Int), ([] : List Int), false)))
theorem spec_Stabilize.mono : ∀ a0 a1 a2 a3 k, LeO (spec_Stabilize.f k a0 a1 a2 a3) (spec_Stabilize.f (k + 1) a0 a1 a2 a3) := by
 intro a0 a1 a2 a3 k; unfold spec_Stabilize.f; repeat' first | (with_reducible apply spec_PileOk.mono) | (with_reducible apply spec_l10Settle.mono) | (with_reducible exact LeO.refl _) | (with_reducible exact LeO.none _) | (with_reducible refine LeO.ite ?_ ?_) | (with_reducible refine LeO.bind ?_ (fun _ => ?_)) | apply spec_PileOk.mono | apply spec_l10Settle.mono | exact LeO.none _ | refine LeO.ite ?_ ?_ | refine LeO.bind ?_ (fun _ => ?_)
end Go.Proofs.Ytgobnfeahffnaaa.P
end

section
namespace Go.Proofs.Ytgobnfeahffnaaa.Cf
set_option linter.unusedVariables false
set_option linter.unusedSimpArgs false
open Go.RowKit Go.Proofs.YtgobnfeahffnaaaW.PrintWords Go.Proofs.Ytgobnfeahffnaaa.P
theorem pOk_pre {n : Int} {es : List E} {p : List Int} {q : Int} (h : pOk n es p q = true) : ∃ m : Nat, n = m ∧ Gr m es q ∧ Pre m q p := by
  obtain ⟨⟨h1, h2, h3⟩, h4, h5, h6⟩ := pOk_iff.1 h
  obtain ⟨m, rfl⟩ := Int.eq_ofNat_of_zero_le (a := n) (by omega)
  have hl : p.length = m := by omega
  refine ⟨m, rfl, Gr.of h1 h4, ⟨hl, fun v v0 v1 _ => ?_, h6⟩⟩
  obtain ⟨i, rfl⟩ := Int.eq_ofNat_of_zero_le v0
  have hi : i < p.length := by omega
  have := h3 _ (List.getElem_mem hi)
  have := h5 _ (List.getElem_mem hi)
  rw [rd_get hi]
  omega
noncomputable def stabO (n : Int) (es : List E) (p : List Int) (q : Int) : List Int × List Int × Bool := if pOk n es p q = true then ((settleS n.toNat es q p).1, (settleS n.toNat es q p).2, true) else ([], [], false)
theorem stabO_len (n : Int) (es : List E) (p : List Int) (q : Int) : (stabO n es p q).1.length ≤ 6 ∧ (stabO n es p q).2.1.length ≤ 6 := by
  unfold stabO
  split
  · rename_i h
    obtain ⟨m, rfl, g, _⟩ := pOk_pre h
    exact settleS_len es q p g.n6
  · simp
theorem implStabO (n : Int) (es : List E) (p : List Int) (q : Int) (hl : p.length ≤ 1048576) : Ep (fun k => impl_Stabilize.f k n es p q) (· = stabO n es p q) := by
  simp only [impl_Stabilize.f, stabO]
  refine Ep.bind (implPile n es p q hl) ?_
  rintro _ rfl
  refine Ep.ite (fun h => ?_) (fun h => Ep.now (by rw [if_neg h]))
  obtain ⟨m, rfl, g, hp⟩ := pOk_pre h
  refine Ep.bind (implStab g hp) ?_
  rintro _ rfl
  exact Ep.now (by rw [if_pos h]; rfl)
theorem stabO_mod (n : Int) (es : List E) (p : List Int) (q : Int) : Mod (stabO n es p q).2.1 := by
  unfold stabO
  split
  · rename_i h
    obtain ⟨m, rfl, g, hp⟩ := pOk_pre h
    intro x hx
    have := settleS_bd g hp x hx
    omega
  · intro x hx; simp at hx
noncomputable def avaO (n : Int) (es : List E) (p : List Int) (q : Int) : Int := if (stabO n es p q).2.2 = true then (stabO n es p q).2.1.sum else -1
theorem implAva (n : Int) (es : List E) (p : List Int) (q : Int) (hl : p.length ≤ 1048576) : Ep (fun k => impl_AvalancheSize.f k n es p q) (· = avaO n es p q) := by
  simp only [impl_AvalancheSize.f, avaO]
  refine Ep.bind (implStabO n es p q hl) ?_
  rintro _ rfl
  refine Ep.ite (fun h => ?_) (fun h => Ep.now (by rw [if_neg h]))
  refine Ep.bind (implSum _ (by have := stabO_len n es p q; omega) (stabO_mod n es p q)) ?_
  rintro _ rfl
  exact Ep.now (by rw [if_pos h])
def topF (es : List E) (p : List Int) (q v w : Int) : Int := if w = q then 0 else rd p w - lap es (one v 1) w
def topC (n : Int) (es : List E) (p : List Int) (q v : Int) : Prop := pOk n es p q = true ∧ v ≠ q ∧ (0 ≤ v ∧ v < n) ∧ valG n es v ≤ rd p v
open Classical in
noncomputable def topO (n : Int) (es : List E) (p : List Int) (q v : Int) : List Int × Bool := if topC n es p q v then (repL n.toNat (topF es p q v), true) else ([], false)
theorem topO_no {n : Int} {es : List E} {p : List Int} {q v : Int} (h : ¬ topC n es p q v) : ([], false) = topO n es p q v := by
  unfold topO
  rw [if_neg h]
theorem topO_yes {m : Nat} {es : List E} {p r : List Int} {q v : Int} (h : topC m es p q v) (hr : Rep m r (topF es p q v)) : (r, true) = topO m es p q v := by
  unfold topO
  rw [if_pos h, hr.eq]
  rfl
theorem Pre.bd1 {n : Nat} {q : Int} {p : List Int} (hp : Pre n q p) : Bd p 1000000 := fun w h0 h1 => by
  by_cases e : w = q
  · rw [e, hp.at_q]; omega
  · have := hp.bd w h0 (by have := hp.len; omega) e
    omega
theorem implTopple (n : Int) (es : List E) (p : List Int) (q v : Int) (hl : p.length ≤ 1048576) : Ep (fun k => impl_Topple.f k n es p q v) (· = topO n es p q v) := by
  simp only [impl_Topple.f]
  refine Ep.bind (implPile n es p q hl) ?_
  rintro _ rfl
  refine Ep.ite (fun h => ?_) (fun h => ?_)
  · refine Ep.ite (fun h2 => ?_) (fun h2 => ?_)
    · refine Ep.up ?_
      simp only [impl_Topple.j0]
      exact Ep.pos trivial (Ep.now (topO_no fun x => x.2.1 h2))
    · obtain ⟨m, rfl, g, hp⟩ := pOk_pre h
      have hn := g.n6
      have hel := g.hel
      have hpl := hp.len
      have hq := g.hq
      rw [wrap_id (x := (m : Int) - 1) (by omega) (by omega)]
      refine Ep.bind0 (within_eq _ _ _) ?_
      refine Ep.ite (fun h3 => ?_) (fun h3 => ?_)
      · have hv : 0 ≤ v ∧ v < m := by have h4 : 0 ≤ v ∧ v ≤ (m : Int) - 1 := by simpa using h3
                                      omega
        refine Ep.pos (by omega) (Ep.pos (by omega) ?_)
        refine Ep.bind (implValence m es v (by omega)) ?_
        rintro _ rfl
        refine Ep.up ?_
        simp only [impl_Topple.j0]
        refine Ep.ite (fun h4 => Ep.now (topO_no fun x => by have h5 := x.2.2.2; simp at h4; omega)) (fun h4 => ?_)
        have h4' : ¬ rd p v < valG m es v := by simpa using h4
        refine Ep.bind0 (copy_eq p (by omega)) ?_
        refine Ep.bind (implFire m es g.hes g.hel p v 1 hpl hv (B := 1000000) (K := 1) ⟨by omega, by omega⟩ hp.bd1 (by omega) (by omega)) ?_
        rintro r ⟨hr, _⟩
        have hr' := hr.rep hpl
        have hrl := hr'.1
        exact Ep.pos (by omega) (Ep.pos (by omega) (Ep.now (topO_yes ⟨h, h2, hv, by omega⟩ (hr'.set hq.1 hq.2 0))))
      · refine Ep.up ?_
        simp only [impl_Topple.j0]
        exact Ep.pos trivial (Ep.now (topO_no fun x => h3 (by have := x.2.2.1; simp; omega)))
  · refine Ep.up ?_
    simp only [impl_Topple.j0]
    exact Ep.pos trivial (Ep.now (topO_no fun x => h x.1))
end Go.Proofs.Ytgobnfeahffnaaa.Cf
end

section
namespace Go.Proofs.Ytgobnfeahffnaaa.P
open Go.RowKit Go.Proofs.YtgobnfeahffnaaaW.PrintWords Go.Proofs.YtgobnfeahffnaaaW.PrintLast Go.Proofs.YtgobnfeahffnaaaW.PrintMore
attribute [local go_sem] max2_int min2_int max_two min_two max_three min_three max_four min_four
set_option linter.unusedVariables false
set_option linter.unusedSimpArgs false
def spec_l05Debt.l0 : Nat → Int → List Int → Int → Int → Option (Bool)
 | 0, _, _, _, _ => none
 | k + 1, x1, x7, x8, x9 => if x9 < x8 then (if 0 ≤ x9 then (if x9 < (x7.length : Int) then (if x9 = x1 then (spec_l05Debt.l0 k x1 x7 x8 (wrap64 (x9 + 1))) else (if (rd x7 x9) < 0 then (some true) else (spec_l05Debt.l0 k x1 x7 x8 (wrap64 (x9 + 1))))) else (none)) else (none)) else (some false)
def spec_l05Debt.f (k : Nat) (l0 : List Int) (a1 : Int) : Option (Bool) := spec_l05Debt.l0 k a1 l0 (l0.length : Int) 0
theorem spec_l05Debt.mono_l : ∀ k, (∀ y0 y1 y2 y3, LeO (spec_l05Debt.l0 k y0 y1 y2 y3) (spec_l05Debt.l0 (k + 1) y0 y1 y2 y3))
 | 0 => fun _ _ _ _ r h => by simp [spec_l05Debt.l0] at h
 | k + 1 => by
  have ih0 := spec_l05Debt.mono_l k
  ·intro y0 y1 y2 y3
   unfold spec_l05Debt.l0
   exact zm0
theorem spec_l05Debt.mono : ∀ a0 a1 k, LeO (spec_l05Debt.f k a0 a1) (spec_l05Debt.f (k + 1) a0 a1) := by
 intro a0 a1 k; have ih0 := spec_l05Debt.mono_l k; unfold spec_l05Debt.f; exact zm0
def impl_inDebt.l0 : Nat → Int → List Int → Int → Int → Option (Int)
 | 0, _, _, _, _ => none
 | k + 1, x1, x7, x8, x9 => if x9 < x8 then (if 0 ≤ x9 then (if x9 < (x7.length : Int) then (if x9 = x1 then (impl_inDebt.l0 k x1 x7 x8 (wrap64 (x9 + 1))) else (if (rd x7 x9) < 0 then (some x9) else (impl_inDebt.l0 k x1 x7 x8 (wrap64 (x9 + 1))))) else (none)) else (none)) else (some (-1))
def impl_inDebt.f (k : Nat) (l0 : List Int) (a1 : Int) : Option (Int) := impl_inDebt.l0 k a1 l0 (l0.length : Int) 0
theorem impl_inDebt.mono_l : ∀ k, (∀ y0 y1 y2 y3, LeO (impl_inDebt.l0 k y0 y1 y2 y3) (impl_inDebt.l0 (k + 1) y0 y1 y2 y3))
 | 0 => fun _ _ _ _ r h => by simp [impl_inDebt.l0] at h
 | k + 1 => by
  have ih0 := impl_inDebt.mono_l k
  ·intro y0 y1 y2 y3
   unfold impl_inDebt.l0
   exact zm0
theorem impl_inDebt.mono : ∀ a0 a1 k, LeO (impl_inDebt.f k a0 a1) (impl_inDebt.f (k + 1) a0 a1) := by
 intro a0 a1 k; have ih0 := impl_inDebt.mono_l k; unfold impl_inDebt.f; exact zm0
mutual
def spec_l05Reduce.l0 : Nat → List Int → Int → List Int → List Int → Int → List (S83) → Option (List Int × List Int)
 | 0, _, _, _, _, _, _ => none
 | k + 1, x1, x2, x8, x9, x102000, x102001 => (spec_l05Debt.f k x9 x2).bind fun t111 => (if t111 = true then (spec_l05Reduce.l1 k x1 x2 x8 x9 (x9.length : Int) 0 x102000 x102001) else (spec_l05Reduce.l2 k x1 x2 x8 x9 x102000 x102001))
def spec_l05Reduce.l1 : Nat → List Int → Int → List Int → List Int → Int → Int → Int → List (S83) → Option (List Int × List Int)
 | 0, _, _, _, _, _, _, _, _ => none
 | k + 1, x1, x2, x8, x9, x23, x24, x102000, x102001 => if x24 < x23 then (if x24 = x2 then (spec_l05Reduce.l1 k x1 x2 x8 x9 x23 (wrap64 (x24 + 1)) x102000 x102001) else (if 0 ≤ x24 then (if x24 < (x9.length : Int) then (if (rd x9 x24) < 0 then (if x24 < (x8.length : Int) then ((some (x8.set (x24 : Int).toNat (wrap64 ((rd x8 x24) - 1)) : List Int)).bind fun y114 => ((spec_l04Fire.f k x102000 x102001 x1 y114).bind fun t115 => (spec_l05Reduce.l1 k x1 x2 y114 t115 x23 (wrap64 (x24 + 1)) x102000 x102001))) else (none)) else (spec_l05Reduce.l1 k x1 x2 x8 x9 x23 (wrap64 (x24 + 1)) x102000 x102001)) else (none)) else (none))) else (spec_l05Reduce.l0 k x1 x2 x8 x9 x102000 x102001)
def spec_l05Reduce.l2 : Nat → List Int → Int → List Int → List Int → Int → List (S83) → Option (List Int × List Int)
 | 0, _, _, _, _, _, _ => none
 | k + 1, x1, x2, x8, x9, x102000, x102001 => (spec_l05Burn.f k x102000 x102001 x9 x2).bind fun t118 => (if (t118.length : Int) = x102000 then (some (x9, x8)) else (spec_l05Reduce.l3 k x1 x2 x8 t118 0 x102000 x102001))
def spec_l05Reduce.l3 : Nat → List Int → Int → List Int → List Int → Int → Int → List (S83) → Option (List Int × List Int)
 | 0, _, _, _, _, _, _, _ => none
 | k + 1, x1, x2, x8, x11, x12, x102000, x102001 => if x12 < x102000 then ((spec_l02Has.f k x11 x12).bind fun t121 => (if t121 = true then (spec_l05Reduce.l3 k x1 x2 x8 x11 (wrap64 (x12 + 1)) x102000 x102001) else (if 0 ≤ x12 then (if x12 < (x8.length : Int) then (spec_l05Reduce.l3 k x1 x2 (x8.set (x12 : Int).toNat (wrap64 ((rd x8 x12) + 1))) x11 (wrap64 (x12 + 1)) x102000 x102001) else (none)) else (none)))) else ((spec_l04Fire.f k x102000 x102001 x1 x8).bind fun t124 => (spec_l05Reduce.l2 k x1 x2 x8 t124 x102000 x102001))
end
def spec_l05Reduce.f (k : Nat) (a0_0 : Int) (l0_1 : List (S83)) (l1 : List Int) (a2 : Int) : Option (List Int × List Int) := if 0 ≤ a0_0 then (if (a0_0 : Int).toNat ≤ 35184372088832 then ((some (([] : List Int) : List Int)).bind fun y105 => (if y105.length + l1.length < 17592186044416 then (spec_l05Reduce.l0 k l1 a2 (List.replicate (a0_0 : Int).toNat 0) (y105 ++ l1) a0_0 l0_1) else (none))) else (none)) else (none)
theorem spec_l05Reduce.mono_l : ∀ k, (∀ y0 y1 y2 y3 y4 y5, LeO (spec_l05Reduce.l0 k y0 y1 y2 y3 y4 y5) (spec_l05Reduce.l0 (k + 1) y0 y1 y2 y3 y4 y5)) ∧ (∀ y0 y1 y2 y3 y4 y5 y6 y7, LeO (spec_l05Reduce.l1 k y0 y1 y2 y3 y4 y5 y6 y7) (spec_l05Reduce.l1 (k + 1) y0 y1 y2 y3 y4 y5 y6 y7)) ∧ (∀ y0 y1 y2 y3 y4 y5, LeO (spec_l05Reduce.l2 k y0 y1 y2 y3 y4 y5) (spec_l05Reduce.l2 (k + 1) y0 y1 y2 y3 y4 y5)) ∧ (∀ y0 y1 y2 y3 y4 y5 y6, LeO (spec_l05Reduce.l3 k y0 y1 y2 y3 y4 y5 y6) (spec_l05Reduce.l3 (k + 1) y0 y1 y2 y3 y4 y5 y6))
 | 0 => ⟨fun _ _ _ _ _ _ r h => by simp [spec_l05Reduce.l0] at h, fun _ _ _ _ _ _ _ _ r h => by simp [spec_l05Reduce.l1] at h, fun _ _ _ _ _ _ r h => by simp [spec_l05Reduce.l2] at h, fun _ _ _ _ _ _ _ r h => by simp [spec_l05Reduce.l3] at h⟩
 | k + 1 => by
  obtain ⟨ih0, ih1, ih2, ih3⟩ := spec_l05Reduce.mono_l k
  refine ⟨?_, ?_, ?_, ?_⟩
  ·intro y0 y1 y2 y3 y4 y5
   unfold spec_l05Reduce.l0
   exact zm4
  ·intro y0 y1 y2 y3 y4 y5 y6 y7
   unfold spec_l05Reduce.l1
   exact zm4
  ·intro y0 y1 y2 y3 y4 y5
   unfold spec_l05Reduce.l2
   exact zm4
  ·intro y0 y1 y2 y3 y4 y5 y6
   unfold spec_l05Reduce.l3
   exact zm4
theorem spec_l05Reduce.mono : ∀ a0 a1 a2 a3 k, LeO (spec_l05Reduce.f k a0 a1 a2 a3) (spec_l05Reduce.f (k + 1) a0 a1 a2 a3) := by
 intro a0 a1 a2 a3 k; obtain ⟨ih0, ih1, ih2, ih3⟩ := spec_l05Reduce.mono_l k; unfold spec_l05Reduce.f; exact zm4
end Go.Proofs.Ytgobnfeahffnaaa.P
end

section
namespace Go.Proofs.Ytgobnfeahffnaaa.P
open Go.RowKit Go.Proofs.YtgobnfeahffnaaaW.PrintWords Go.Proofs.YtgobnfeahffnaaaW.PrintLast Go.Proofs.YtgobnfeahffnaaaW.PrintMore
attribute [local go_sem] max2_int min2_int max_two min_two max_three min_three max_four min_four
set_option linter.unusedVariables false
set_option linter.unusedSimpArgs false
mutual
def impl_reduce.l0 : Nat → Int → List Int → List Int → Int → Int → List (S83) → Option (List Int × List Int)
 | 0, _, _, _, _, _, _ => none
 | k + 1, x2, x8, x9, x10, x102000, x102001 => if x10 ≥ 0 then ((impl_Valence.f k x102000 x102001 x10).bind fun t109 => (if 0 ≤ x10 then (if x10 < (x8.length : Int) then (if t109 = 0 then (none) else ((impl_fire.f k x102000 x102001 x8 x10 (wrap64 (-(wrap64 (Int.tdiv (wrap64 ((wrap64 (t109 - 1)) - (rd x8 x10))) t109))))).bind fun t111 => (if x10 < (x9.length : Int) then ((impl_inDebt.f k t111 x2).bind fun t114 => (impl_reduce.l0 k x2 t111 (x9.set (x10 : Int).toNat (wrap64 ((rd x9 x10) - (wrap64 (Int.tdiv (wrap64 ((wrap64 (t109 - 1)) - (rd x8 x10))) t109))))) t114 x102000 x102001)) else (none)))) else (none)) else (none))) else (impl_reduce.l1 k x2 x8 x9 x102000 x102001)
def impl_reduce.l1 : Nat → Int → List Int → List Int → Int → List (S83) → Option (List Int × List Int)
 | 0, _, _, _, _, _ => none
 | k + 1, x2, x8, x9, x102000, x102001 => (impl_burn.f k x102000 x102001 x8 x2).bind fun t115 => (if (t115.length : Int) = x102000 then (some (x8, x9)) else (impl_reduce.l2 k x2 x8 x9 t115 (x9.length : Int) 0 x102000 x102001))
def impl_reduce.l2 : Nat → Int → List Int → List Int → List Int → Int → Int → Int → List (S83) → Option (List Int × List Int)
 | 0, _, _, _, _, _, _, _, _ => none
 | k + 1, x2, x8, x9, x13, x65, x66, x102000, x102001 => if x66 < x65 then ((slices_Contains_int_int.f k x13 x66).bind fun t118 => (if t118 = true then (impl_reduce.l2 k x2 x8 x9 x13 x65 (wrap64 (x66 + 1)) x102000 x102001) else ((impl_fire.f k x102000 x102001 x8 x66 1).bind fun t119 => (if 0 ≤ x66 then (if x66 < (x9.length : Int) then (impl_reduce.l2 k x2 t119 (x9.set (x66 : Int).toNat (wrap64 ((rd x9 x66) + 1))) x13 x65 (wrap64 (x66 + 1)) x102000 x102001) else (none)) else (none))))) else (impl_reduce.l1 k x2 x8 x9 x102000 x102001)
end
def impl_reduce.f (k : Nat) (a0_0 : Int) (l0_1 : List (S83)) (l1 : List Int) (a2 : Int) : Option (List Int × List Int) := (impl_copyInts.f l1).bind fun t102 => (if 0 ≤ a0_0 then (if (a0_0 : Int).toNat ≤ 35184372088832 then ((impl_inDebt.f k t102 a2).bind fun t108 => (impl_reduce.l0 k a2 t102 (List.replicate (a0_0 : Int).toNat 0) t108 a0_0 l0_1)) else (none)) else (none))
theorem impl_reduce.mono_l : ∀ k, (∀ y0 y1 y2 y3 y4 y5, LeO (impl_reduce.l0 k y0 y1 y2 y3 y4 y5) (impl_reduce.l0 (k + 1) y0 y1 y2 y3 y4 y5)) ∧ (∀ y0 y1 y2 y3 y4, LeO (impl_reduce.l1 k y0 y1 y2 y3 y4) (impl_reduce.l1 (k + 1) y0 y1 y2 y3 y4)) ∧ (∀ y0 y1 y2 y3 y4 y5 y6 y7, LeO (impl_reduce.l2 k y0 y1 y2 y3 y4 y5 y6 y7) (impl_reduce.l2 (k + 1) y0 y1 y2 y3 y4 y5 y6 y7))
 | 0 => ⟨fun _ _ _ _ _ _ r h => by simp [impl_reduce.l0] at h, fun _ _ _ _ _ r h => by simp [impl_reduce.l1] at h, fun _ _ _ _ _ _ _ _ r h => by simp [impl_reduce.l2] at h⟩
 | k + 1 => by
  obtain ⟨ih0, ih1, ih2⟩ := impl_reduce.mono_l k
  refine ⟨?_, ?_, ?_⟩
  ·intro y0 y1 y2 y3 y4 y5
   unfold impl_reduce.l0
   exact zm6
  ·intro y0 y1 y2 y3 y4
   unfold impl_reduce.l1
   exact zm6
  ·intro y0 y1 y2 y3 y4 y5 y6 y7
   unfold impl_reduce.l2
   exact zm6
theorem impl_reduce.mono : ∀ a0 a1 a2 a3 k, LeO (impl_reduce.f k a0 a1 a2 a3) (impl_reduce.f (k + 1) a0 a1 a2 a3) := by
 intro a0 a1 a2 a3 k; obtain ⟨ih0, ih1, ih2⟩ := impl_reduce.mono_l k; unfold impl_reduce.f; exact zm6
end Go.Proofs.Ytgobnfeahffnaaa.P
end

section
namespace Go.Proofs.Ytgobnfeahffnaaa.Cf
set_option linter.unusedVariables false
set_option linter.unusedSimpArgs false
open Go.RowKit Go.Proofs.YtgobnfeahffnaaaW.PrintWords Go.Proofs.Ytgobnfeahffnaaa.P
/-- t has been borrowed. -/
def Owed (n : Nat) (es : List E) (q : Int) (d : List Int) (t : Int → Int) : Prop := Legal n es q (dual es (rd d)) t
theorem Owed.zero {n : Nat} {es : List E} {q : Int} {d : List Int} : Owed n es q d (fun _ => 0) := Legal.zero
theorem Owed.step {n : Nat} {es : List E} {q : Int} {d : List Int} {t : Int → Int} (h : Owed n es q d t) {v : Int} (h0 : 0 ≤ v) (h1 : v < n) (hv : v ≠ q) (hd : rd d v + lap es t v < 0) : Owed n es q d (fun w => t w + one v 1 w) :=
  Legal.step h h0 h1 hv (by unfold dual; omega)
structure Sec (n : Nat) (es : List E) (q : Int) (d : List Int) (t u : Int → Int) : Prop where
  ow : Owed n es q d t
  sets : Sets n es q (fun v => rd d v + lap es t v) u
theorem Sec.done {n : Nat} {es : List E} {q : Int} (g : Gr n es q) {d : List Int} {t u : Int → Int} (h : Sec n es q d t u) {s x : List Int} (hs : Rep n s (fun w => u w - t w)) (hx : Rep n x (fun w => rd d w + lap es t w - lap es u w)) {b : List Int} (hbu : Burn n es (rd x) q b) (hl : b.length = n) : Reduced n es q d (x, s) := by
  refine ⟨hx.1, hs.1, hbu.red g.hes g.hq hl (fun v v0 v1 v2 => ?_), ?_, fun v v0 v1 => ?_⟩
  · rw [hx.2 v v0 v1]
    exact h.sets.keeps v v0 v1 v2
  · have e : rd s q = u q - t q := hs.2 q g.hq.1 g.hq.2
    show rd s q = 0
    rw [e, h.sets.at_q, h.ow.nonneg.2]
    rfl
  · have e : rd x v = rd d v + lap es t v - lap es u v := hx.2 v v0 v1
    show rd x v = rd d v - lap es (rd s) v
    rw [e, lap_congr g.hes (t := fun w => u w - t w) hs.2, lap_sub]
    omega
end Go.Proofs.Ytgobnfeahffnaaa.Cf
end

section
namespace Go.Proofs.Ytgobnfeahffnaaa.P
open Go.RowKit Go.Proofs.YtgobnfeahffnaaaW.PrintWords Go.Proofs.YtgobnfeahffnaaaW.PrintLast Go.Proofs.YtgobnfeahffnaaaW.PrintMore
attribute [local go_sem] max2_int min2_int max_two min_two max_three min_three max_four min_four
set_option linter.unusedVariables false
set_option linter.unusedSimpArgs false
mutual
def spec_FullPile.j0 : Nat → Int → Bool → Int → List (S83) → Option (List Int)
 | 0, _, _, _, _ => none
 | k + 1, x1, x17, x102000, x102001 => if x17 = true then (some ([] : List Int)) else (spec_FullPile.l0 k x1 (([] : List Int)) 0 x102000 x102001)
def spec_FullPile.l0 : Nat → Int → List Int → Int → Int → List (S83) → Option (List Int)
 | 0, _, _, _, _, _ => none
 | k + 1, x1, x5, x6, x102000, x102001 => if x6 < x102000 then (if x6 = x1 then (if x5.length < 17592186044416 then (spec_FullPile.l0 k x1 (x5 ++ [0]) (wrap64 (x6 + 1)) x102000 x102001) else (none)) else ((spec_Valence.f k x102000 x102001 x6).bind fun t110 => (if x5.length < 17592186044416 then (spec_FullPile.l0 k x1 (x5 ++ [wrap64 (t110 - 1)]) (wrap64 (x6 + 1)) x102000 x102001) else (none)))) else (some x5)
end
def spec_FullPile.f (k : Nat) (a0_0 : Int) (l0_1 : List (S83)) (a1 : Int) : Option (List Int) := (spec_GraphOk.f k a0_0 l0_1).bind fun t102 => (if t102 = true then ((spec_l01In.f a1 0 (wrap64 (a0_0 - 1))).bind fun t103 => (spec_FullPile.j0 k a1 (!t103) a0_0 l0_1)) else (spec_FullPile.j0 k a1 true a0_0 l0_1))
theorem spec_FullPile.mono_l : ∀ k, (∀ y0 y1 y2 y3, LeO (spec_FullPile.j0 k y0 y1 y2 y3) (spec_FullPile.j0 (k + 1) y0 y1 y2 y3)) ∧ (∀ y0 y1 y2 y3 y4, LeO (spec_FullPile.l0 k y0 y1 y2 y3 y4) (spec_FullPile.l0 (k + 1) y0 y1 y2 y3 y4))
 | 0 => ⟨fun _ _ _ _ r h => by simp [spec_FullPile.j0] at h, fun _ _ _ _ _ r h => by simp [spec_FullPile.l0] at h⟩
 | k + 1 => by
  obtain ⟨ih0, ih1⟩ := spec_FullPile.mono_l k
  refine ⟨?_, ?_⟩
  ·intro y0 y1 y2 y3
   unfold spec_FullPile.j0
   exact zm12
  ·intro y0 y1 y2 y3 y4
   unfold spec_FullPile.l0
   exact zm12
theorem spec_FullPile.mono : ∀ a0 a1 a2 k, LeO (spec_FullPile.f k a0 a1 a2) (spec_FullPile.f (k + 1) a0 a1 a2) := by
 intro a0 a1 a2 k; obtain ⟨ih0, ih1⟩ := spec_FullPile.mono_l k; unfold spec_FullPile.f; exact zm12
end Go.Proofs.Ytgobnfeahffnaaa.P
end

section
namespace Go.Proofs.Ytgobnfeahffnaaa.P
open Go.RowKit Go.Proofs.YtgobnfeahffnaaaW.PrintWords Go.Proofs.YtgobnfeahffnaaaW.PrintLast Go.Proofs.YtgobnfeahffnaaaW.PrintMore
attribute [local go_sem] max2_int min2_int max_two min_two max_three min_three max_four min_four
set_option linter.unusedVariables false
set_option linter.unusedSimpArgs false
def impl_FullPile.l0 : Nat → Int → List Int → Int → Int → Int → List (S83) → Option (List Int)
 | 0, _, _, _, _, _, _ => none
 | k + 1, x1, x5, x15, x16, x102000, x102001 => if x16 < x15 then (if x16 = x1 then (impl_FullPile.l0 k x1 x5 x15 (wrap64 (x16 + 1)) x102000 x102001) else ((impl_Valence.f k x102000 x102001 x16).bind fun t106 => (if 0 ≤ x16 then (if x16 < (x5.length : Int) then (impl_FullPile.l0 k x1 (x5.set (x16 : Int).toNat (wrap64 (t106 - 1))) x15 (wrap64 (x16 + 1)) x102000 x102001) else (none)) else (none)))) else (some x5)
def impl_FullPile.f (k : Nat) (a0_0 : Int) (l0_1 : List (S83)) (a1 : Int) : Option (List Int) := (impl_isVertex.f a0_0 l0_1 a1).bind fun t102 => (if t102 = true then (if 0 ≤ a0_0 then (if (a0_0 : Int).toNat ≤ 35184372088832 then ((some (List.replicate (a0_0 : Int).toNat 0 : List Int)).bind fun y103 => (impl_FullPile.l0 k a1 y103 (y103.length : Int) 0 a0_0 l0_1)) else (none)) else (none)) else (some ([] : List Int)))
theorem impl_FullPile.mono_l : ∀ k, (∀ y0 y1 y2 y3 y4 y5, LeO (impl_FullPile.l0 k y0 y1 y2 y3 y4 y5) (impl_FullPile.l0 (k + 1) y0 y1 y2 y3 y4 y5))
 | 0 => fun _ _ _ _ _ _ r h => by simp [impl_FullPile.l0] at h
 | k + 1 => by
  have ih0 := impl_FullPile.mono_l k
  ·intro y0 y1 y2 y3 y4 y5
   unfold impl_FullPile.l0
   exact zm9
theorem impl_FullPile.mono : ∀ a0 a1 a2 k, LeO (impl_FullPile.f k a0 a1 a2) (impl_FullPile.f (k + 1) a0 a1 a2) := by
 intro a0 a1 a2 k; have ih0 := impl_FullPile.mono_l k; unfold impl_FullPile.f; exact zm9
def impl_plus.l0 : Nat → List Int → List Int → Int → Int → Option (List Int)
 | 0, _, _, _, _ => none
 | k + 1, x1, x5, x10, x11 => if x11 < x10 then (if 0 ≤ x11 then (if x11 < (x5.length : Int) then (if x11 < (x1.length : Int) then (impl_plus.l0 k x1 (x5.set (x11 : Int).toNat (wrap64 ((rd x5 x11) + (rd x1 x11)))) x10 (wrap64 (x11 + 1))) else (none)) else (none)) else (none)) else (some x5)
def impl_plus.f (k : Nat) (l0 : List Int) (l1 : List Int) : Option (List Int) := (impl_copyInts.f l0).bind fun t101 => (impl_plus.l0 k l1 t101 (t101.length : Int) 0)
theorem impl_plus.mono_l : ∀ k, (∀ y0 y1 y2 y3, LeO (impl_plus.l0 k y0 y1 y2 y3) (impl_plus.l0 (k + 1) y0 y1 y2 y3))
 | 0 => fun _ _ _ _ r h => by simp [impl_plus.l0] at h
 | k + 1 => by
  have ih0 := impl_plus.mono_l k
  ·intro y0 y1 y2 y3
   unfold impl_plus.l0
   exact zm0
theorem impl_plus.mono : ∀ a0 a1 k, LeO (impl_plus.f k a0 a1) (impl_plus.f (k + 1) a0 a1) := by
 intro a0 a1 k; have ih0 := impl_plus.mono_l k; unfold impl_plus.f; exact zm0
def spec_AddDivisors.l0 : Nat → List Int → List Int → List Int → Int → Int → Option (List Int × Bool)
 | 0, _, _, _, _, _ => none
 | k + 1, x1, x6, x15, x16, x17 => if x17 < x16 then (if 0 ≤ x17 then (if x17 < (x15.length : Int) then (if x17 < (x1.length : Int) then (if x6.length < 17592186044416 then (spec_AddDivisors.l0 k x1 (x6 ++ [wrap64 ((rd x15 x17) + (rd x1 x17))]) x15 x16 (wrap64 (x17 + 1))) else (none)) else (none)) else (none)) else (none)) else (some (x6, true))
def spec_AddDivisors.f (k : Nat) (l0 : List Int) (l1 : List Int) : Option (List Int × Bool) := if (l0.length : Int) = (l1.length : Int) then (spec_AddDivisors.l0 k l1 (([] : List Int)) l0 (l0.length : Int) 0) else (some (([] : List Int), false))
theorem spec_AddDivisors.mono_l : ∀ k, (∀ y0 y1 y2 y3 y4, LeO (spec_AddDivisors.l0 k y0 y1 y2 y3 y4) (spec_AddDivisors.l0 (k + 1) y0 y1 y2 y3 y4))
 | 0 => fun _ _ _ _ _ r h => by simp [spec_AddDivisors.l0] at h
 | k + 1 => by
  have ih0 := spec_AddDivisors.mono_l k
  ·intro y0 y1 y2 y3 y4
   unfold spec_AddDivisors.l0
   exact zm0
theorem spec_AddDivisors.mono : ∀ a0 a1 k, LeO (spec_AddDivisors.f k a0 a1) (spec_AddDivisors.f (k + 1) a0 a1) := by
 intro a0 a1 k; have ih0 := spec_AddDivisors.mono_l k; unfold spec_AddDivisors.f; exact zm0
def spec_l07Minus.l0 : Nat → List Int → List Int → List Int → Int → Int → Option (List Int)
 | 0, _, _, _, _, _ => none
 | k + 1, x1, x5, x9, x10, x11 => if x11 < x10 then (if 0 ≤ x11 then (if x11 < (x9.length : Int) then (if x11 < (x1.length : Int) then (if x5.length < 17592186044416 then (spec_l07Minus.l0 k x1 (x5 ++ [wrap64 ((rd x9 x11) - (rd x1 x11))]) x9 x10 (wrap64 (x11 + 1))) else (none)) else (none)) else (none)) else (none)) else (some x5)
def spec_l07Minus.f (k : Nat) (l0 : List Int) (l1 : List Int) : Option (List Int) := spec_l07Minus.l0 k l1 (([] : List Int)) l0 (l0.length : Int) 0
theorem spec_l07Minus.mono_l : ∀ k, (∀ y0 y1 y2 y3 y4, LeO (spec_l07Minus.l0 k y0 y1 y2 y3 y4) (spec_l07Minus.l0 (k + 1) y0 y1 y2 y3 y4))
 | 0 => fun _ _ _ _ _ r h => by simp [spec_l07Minus.l0] at h
 | k + 1 => by
  have ih0 := spec_l07Minus.mono_l k
  ·intro y0 y1 y2 y3 y4
   unfold spec_l07Minus.l0
   exact zm0
theorem spec_l07Minus.mono : ∀ a0 a1 k, LeO (spec_l07Minus.f k a0 a1) (spec_l07Minus.f (k + 1) a0 a1) := by
 intro a0 a1 k; have ih0 := spec_l07Minus.mono_l k; unfold spec_l07Minus.f; exact zm0
def impl_NegateDivisor.l0 : Nat → List Int → Int → Int → Option (List Int)
 | 0, _, _, _ => none
 | k + 1, x3, x8, x9 => if x9 < x8 then (if 0 ≤ x9 then (if x9 < (x3.length : Int) then (impl_NegateDivisor.l0 k (x3.set (x9 : Int).toNat (wrap64 (-(rd x3 x9)))) x8 (wrap64 (x9 + 1))) else (none)) else (none)) else (some x3)
def impl_NegateDivisor.f (k : Nat) (l0 : List Int) : Option (List Int) := (impl_copyInts.f l0).bind fun t101 => (impl_NegateDivisor.l0 k t101 (t101.length : Int) 0)
theorem impl_NegateDivisor.mono_l : ∀ k, (∀ y0 y1 y2, LeO (impl_NegateDivisor.l0 k y0 y1 y2) (impl_NegateDivisor.l0 (k + 1) y0 y1 y2))
 | 0 => fun _ _ _ r h => by simp [impl_NegateDivisor.l0] at h
 | k + 1 => by
  have ih0 := impl_NegateDivisor.mono_l k
  ·intro y0 y1 y2
   unfold impl_NegateDivisor.l0
   exact zm0
theorem impl_NegateDivisor.mono : ∀ a0 k, LeO (impl_NegateDivisor.f k a0) (impl_NegateDivisor.f (k + 1) a0) := by
 intro a0 k; have ih0 := impl_NegateDivisor.mono_l k; unfold impl_NegateDivisor.f; exact zm0
def slices_Equal_int_int.l0 : Nat → List Int → List Int → Int → Int → Option (Bool)
 | 0, _, _, _, _ => none
 | k + 1, x0, x1, x12, x13 => if x13 < x12 then (if 0 ≤ x13 then (if x13 < (x0.length : Int) then (if x13 < (x1.length : Int) then (if (rd x0 x13) = (rd x1 x13) then (slices_Equal_int_int.l0 k x0 x1 x12 (wrap64 (x13 + 1))) else (some false)) else (none)) else (none)) else (none)) else (some true)
def slices_Equal_int_int.f (k : Nat) (l0 : List Int) (l1 : List Int) : Option (Bool) := if (l0.length : Int) = (l1.length : Int) then (slices_Equal_int_int.l0 k l0 l1 (l0.length : Int) 0) else (some false)
theorem slices_Equal_int_int.mono_l : ∀ k, (∀ y0 y1 y2 y3, LeO (slices_Equal_int_int.l0 k y0 y1 y2 y3) (slices_Equal_int_int.l0 (k + 1) y0 y1 y2 y3))
 | 0 => fun _ _ _ _ r h => by simp [slices_Equal_int_int.l0] at h
 | k + 1 => by
  have ih0 := slices_Equal_int_int.mono_l k
  ·intro y0 y1 y2 y3
   unfold slices_Equal_int_int.l0
   exact zm0
theorem slices_Equal_int_int.mono : ∀ a0 a1 k, LeO (slices_Equal_int_int.f k a0 a1) (slices_Equal_int_int.f (k + 1) a0 a1) := by
 intro a0 a1 k; have ih0 := slices_Equal_int_int.mono_l k; unfold slices_Equal_int_int.f; exact zm0
def impl_SameDivisor.f (k : Nat) (l0 : List Int) (l1 : List Int) : Option (Bool) := (slices_Equal_int_int.f k l0 l1).bind fun t101 => (some t101)
theorem impl_SameDivisor.mono : ∀ a0 a1 k, LeO (impl_SameDivisor.f k a0 a1) (impl_SameDivisor.f (k + 1) a0 a1) := by
 intro a0 a1 k; unfold impl_SameDivisor.f; repeat' first | (with_reducible apply slices_Equal_int_int.mono) | (with_reducible exact LeO.refl _) | (with_reducible exact LeO.none _) | (with_reducible refine LeO.ite ?_ ?_) | (with_reducible refine LeO.bind ?_ (fun _ => ?_)) | apply slices_Equal_int_int.mono | exact LeO.none _ | refine LeO.ite ?_ ?_ | refine LeO.bind ?_ (fun _ => ?_)
end Go.Proofs.Ytgobnfeahffnaaa.P
end

section
namespace Go.Proofs.Ytgobnfeahffnaaa.Cf
set_option linter.unusedVariables false
set_option linter.unusedSimpArgs false
open Go.RowKit Go.Proofs.YtgobnfeahffnaaaW.PrintWords Go.Proofs.Ytgobnfeahffnaaa.P
def plusL (a b : List Int) : List Int := repL a.length fun w => rd a w + rd b w
end Go.Proofs.Ytgobnfeahffnaaa.Cf
end

section
namespace Go.Proofs.Ytgobnfeahffnaaa.P
open Go.RowKit Go.Proofs.YtgobnfeahffnaaaW.PrintWords Go.Proofs.YtgobnfeahffnaaaW.PrintLast Go.Proofs.YtgobnfeahffnaaaW.PrintMore
attribute [local go_sem] max2_int min2_int max_two min_two max_three min_three max_four min_four
set_option linter.unusedVariables false
set_option linter.unusedSimpArgs false
def spec_SumOfPiles.j0 : Nat → List Int → List Int → Int → Bool → Int → List (S83) → Option (List Int × Bool)
 | 0, _, _, _, _, _, _ => none
 | k + 1, x1, x2, x3, x26, x102000, x102001 => if x26 = true then (some (([] : List Int), false)) else ((spec_AddDivisors.f k x1 x2).bind fun bt104 => ((spec_Stabilize.f k x102000 x102001 bt104.1 x3).bind fun bt108 => (some (bt108.1, bt108.2.2))))
def spec_SumOfPiles.f (k : Nat) (a0_0 : Int) (l0_1 : List (S83)) (l1 : List Int) (l2 : List Int) (a3 : Int) : Option (List Int × Bool) := (spec_PileOk.f k a0_0 l0_1 l1 a3).bind fun t102 => (if t102 = true then ((spec_PileOk.f k a0_0 l0_1 l2 a3).bind fun t103 => (spec_SumOfPiles.j0 k l1 l2 a3 (!t103) a0_0 l0_1)) else (spec_SumOfPiles.j0 k l1 l2 a3 true a0_0 l0_1))
theorem spec_SumOfPiles.mono_l : ∀ k, (∀ y0 y1 y2 y3 y4 y5, LeO (spec_SumOfPiles.j0 k y0 y1 y2 y3 y4 y5) (spec_SumOfPiles.j0 (k + 1) y0 y1 y2 y3 y4 y5))
 | 0 => fun _ _ _ _ _ _ r h => by simp [spec_SumOfPiles.j0] at h
 | k + 1 => by
  have ih0 := spec_SumOfPiles.mono_l k
  ·intro y0 y1 y2 y3 y4 y5
   unfold spec_SumOfPiles.j0
   exact zm15
theorem spec_SumOfPiles.mono : ∀ a0 a1 a2 a3 a4 k, LeO (spec_SumOfPiles.f k a0 a1 a2 a3 a4) (spec_SumOfPiles.f (k + 1) a0 a1 a2 a3 a4) := by
 intro a0 a1 a2 a3 a4 k; have ih0 := spec_SumOfPiles.mono_l k; unfold spec_SumOfPiles.f; exact zm15
def impl_SumOfPiles.j0 : Nat → List Int → List Int → Int → Bool → Int → List (S83) → Option (List Int × Bool)
 | 0, _, _, _, _, _, _ => none
 | k + 1, x1, x2, x3, x32, x102000, x102001 => if x32 = true then (some (([] : List Int), false)) else ((impl_plus.f k x1 x2).bind fun t108 => ((impl_stabilize.f k x102000 x102001 t108 x3).bind fun bt111 => (some (bt111.1, true))))
def impl_SumOfPiles.f (k : Nat) (a0_0 : Int) (l0_1 : List (S83)) (l1 : List Int) (l2 : List Int) (a3 : Int) : Option (List Int × Bool) := (impl_PileOk.f k a0_0 l0_1 l1 a3).bind fun t102 => (if t102 = true then ((impl_PileOk.f k a0_0 l0_1 l2 a3).bind fun t103 => (if t103 = true then ((impl_plus.f k l1 l2).bind fun t104 => ((impl_PileOk.f k a0_0 l0_1 t104 a3).bind fun t107 => (impl_SumOfPiles.j0 k l1 l2 a3 (!t107) a0_0 l0_1))) else (impl_SumOfPiles.j0 k l1 l2 a3 true a0_0 l0_1))) else (impl_SumOfPiles.j0 k l1 l2 a3 true a0_0 l0_1))
theorem impl_SumOfPiles.mono_l : ∀ k, (∀ y0 y1 y2 y3 y4 y5, LeO (impl_SumOfPiles.j0 k y0 y1 y2 y3 y4 y5) (impl_SumOfPiles.j0 (k + 1) y0 y1 y2 y3 y4 y5))
 | 0 => fun _ _ _ _ _ _ r h => by simp [impl_SumOfPiles.j0] at h
 | k + 1 => by
  have ih0 := impl_SumOfPiles.mono_l k
  ·intro y0 y1 y2 y3 y4 y5
   unfold impl_SumOfPiles.j0
   exact zm18
theorem impl_SumOfPiles.mono : ∀ a0 a1 a2 a3 a4 k, LeO (impl_SumOfPiles.f k a0 a1 a2 a3 a4) (impl_SumOfPiles.f (k + 1) a0 a1 a2 a3 a4) := by
 intro a0 a1 a2 a3 a4 k; have ih0 := impl_SumOfPiles.mono_l k; unfold impl_SumOfPiles.f; exact zm18
def impl_IsRecurrent.l0 : Nat → List Int → Int → List Int → List Int → Int → Int → Option (Bool)
 | 0, _, _, _, _, _, _ => none
 | k + 1, x1, x2, x8, x33, x34, x35 => if x35 < x34 then (if 0 ≤ x35 then (if x35 < (x33.length : Int) then (if x35 = x2 then (impl_IsRecurrent.l0 k x1 x2 x8 x33 x34 (wrap64 (x35 + 1))) else (if (rd x33 x35) = 1 then (impl_IsRecurrent.l0 k x1 x2 x8 x33 x34 (wrap64 (x35 + 1))) else (some false))) else (none)) else (none)) else ((impl_SameDivisor.f k x8 x1).bind fun t115 => (some t115))
def impl_IsRecurrent.f (k : Nat) (a0_0 : Int) (l0_1 : List (S83)) (l1 : List Int) (a2 : Int) : Option (Bool) := (impl_IsStable.f k a0_0 l0_1 l1 a2).bind fun t102 => (if t102 = true then ((impl_copyInts.f l1).bind fun t103 => ((impl_fire.f k a0_0 l0_1 t103 a2 1).bind fun t106 => (if 0 ≤ a2 then (if a2 < (t103.length : Int) then ((impl_stabilize.f k a0_0 l0_1 (t106.set (a2 : Int).toNat 0) a2).bind fun bt108 => (impl_IsRecurrent.l0 k l1 a2 bt108.1 bt108.2 (bt108.2.length : Int) 0)) else (none)) else (none)))) else (some false))
theorem impl_IsRecurrent.mono_l : ∀ k, (∀ y0 y1 y2 y3 y4 y5, LeO (impl_IsRecurrent.l0 k y0 y1 y2 y3 y4 y5) (impl_IsRecurrent.l0 (k + 1) y0 y1 y2 y3 y4 y5))
 | 0 => fun _ _ _ _ _ _ r h => by simp [impl_IsRecurrent.l0] at h
 | k + 1 => by
  have ih0 := impl_IsRecurrent.mono_l k
  ·intro y0 y1 y2 y3 y4 y5
   unfold impl_IsRecurrent.l0
   exact zm13
theorem impl_IsRecurrent.mono : ∀ a0 a1 a2 a3 k, LeO (impl_IsRecurrent.f k a0 a1 a2 a3) (impl_IsRecurrent.f (k + 1) a0 a1 a2 a3) := by
 intro a0 a1 a2 a3 k; have ih0 := impl_IsRecurrent.mono_l k; unfold impl_IsRecurrent.f; exact zm13
def spec_l09Zero.f (k : Nat) (a0_0 : Int) (l0_1 : List (S83)) (l1 : List Int) : Option (Bool) := (spec_DivisorOk.f k a0_0 l0_1 l1).bind fun t102 => (if t102 = true then ((spec_DegreeOf.f k l1).bind fun t103 => (some (t103 == 0))) else (some false))
theorem spec_l09Zero.mono : ∀ a0 a1 a2 k, LeO (spec_l09Zero.f k a0 a1 a2) (spec_l09Zero.f (k + 1) a0 a1 a2) := by
 intro a0 a1 a2 k; unfold spec_l09Zero.f; repeat' first | (with_reducible apply spec_DegreeOf.mono) | (with_reducible apply spec_DivisorOk.mono) | (with_reducible exact LeO.refl _) | (with_reducible exact LeO.none _) | (with_reducible refine LeO.ite ?_ ?_) | (with_reducible refine LeO.bind ?_ (fun _ => ?_)) | apply spec_DegreeOf.mono | apply spec_DivisorOk.mono | exact LeO.none _ | refine LeO.ite ?_ ?_ | refine LeO.bind ?_ (fun _ => ?_)
def impl_ofDegreeZero.f (k : Nat) (a0_0 : Int) (l0_1 : List (S83)) (l1 : List Int) : Option (Bool) := (impl_DivisorOk.f k a0_0 l0_1 l1).bind fun t102 => (if t102 = true then ((impl_DegreeOf.f k l1).bind fun t103 => (some (t103 == 0))) else (some false))
theorem impl_ofDegreeZero.mono : ∀ a0 a1 a2 k, LeO (impl_ofDegreeZero.f k a0 a1 a2) (impl_ofDegreeZero.f (k + 1) a0 a1 a2) := by
 intro a0 a1 a2 k; unfold impl_ofDegreeZero.f; repeat' first | (with_reducible apply impl_DegreeOf.mono) | (with_reducible apply impl_DivisorOk.mono) | (with_reducible exact LeO.refl _) | (with_reducible exact LeO.none _) | (with_reducible refine LeO.ite ?_ ?_) | (with_reducible refine LeO.bind ?_ (fun _ => ?_)) | apply impl_DegreeOf.mono | apply impl_DivisorOk.mono | exact LeO.none _ | refine LeO.ite ?_ ?_ | refine LeO.bind ?_ (fun _ => ?_)
def spec_l11Full.f (k : Nat) (a0_0 : Int) (l0_1 : List (S83)) (l1 : List Int) (a2 : Int) : Option (List Int) := (spec_FullPile.f k a0_0 l0_1 a2).bind fun t102 => ((spec_l07Minus.f k t102 l1).bind fun t105 => (if 0 ≤ a2 then (if a2 < (t105.length : Int) then (some (t105.set (a2 : Int).toNat 0)) else (none)) else (none)))
theorem spec_l11Full.mono : ∀ a0 a1 a2 a3 k, LeO (spec_l11Full.f k a0 a1 a2 a3) (spec_l11Full.f (k + 1) a0 a1 a2 a3) := by
 intro a0 a1 a2 a3 k; unfold spec_l11Full.f; repeat' first | (with_reducible apply spec_FullPile.mono) | (with_reducible apply spec_l07Minus.mono) | (with_reducible exact LeO.refl _) | (with_reducible exact LeO.none _) | (with_reducible refine LeO.ite ?_ ?_) | (with_reducible refine LeO.bind ?_ (fun _ => ?_)) | apply spec_FullPile.mono | apply spec_l07Minus.mono | exact LeO.none _ | refine LeO.ite ?_ ?_ | refine LeO.bind ?_ (fun _ => ?_)
def spec_l11Class.f (k : Nat) (a0_0 : Int) (l0_1 : List (S83)) (l1 : List Int) (a2 : Int) : Option (List Int) := (spec_FullPile.f k a0_0 l0_1 a2).bind fun t102 => ((spec_l07Minus.f k t102 l1).bind fun t105 => ((spec_l05Reduce.f k a0_0 l0_1 t105 a2).bind fun bt108 => ((spec_l11Full.f k a0_0 l0_1 bt108.1 a2).bind fun t114 => (some t114))))
theorem spec_l11Class.mono : ∀ a0 a1 a2 a3 k, LeO (spec_l11Class.f k a0 a1 a2 a3) (spec_l11Class.f (k + 1) a0 a1 a2 a3) := by
 intro a0 a1 a2 a3 k; unfold spec_l11Class.f; repeat' first | (with_reducible apply spec_FullPile.mono) | (with_reducible apply spec_l05Reduce.mono) | (with_reducible apply spec_l07Minus.mono) | (with_reducible apply spec_l11Full.mono) | (with_reducible exact LeO.refl _) | (with_reducible exact LeO.none _) | (with_reducible refine LeO.ite ?_ ?_) | (with_reducible refine LeO.bind ?_ (fun _ => ?_)) | apply spec_FullPile.mono | apply spec_l05Reduce.mono | apply spec_l07Minus.mono | apply spec_l11Full.mono | exact LeO.none _ | refine LeO.ite ?_ ?_ | refine LeO.bind ?_ (fun _ => ?_)
def impl_recurrentOf.f (k : Nat) (a0_0 : Int) (l0_1 : List (S83)) (l1 : List Int) (a2 : Int) : Option (List Int) := (impl_FullPile.f k a0_0 l0_1 a2).bind fun t102 => ((impl_NegateDivisor.f k l1).bind fun t105 => ((impl_plus.f k t102 t105).bind fun t108 => ((impl_reduce.f k a0_0 l0_1 t108 a2).bind fun bt111 => ((impl_NegateDivisor.f k bt111.1).bind fun t117 => ((impl_plus.f k t102 t117).bind fun t120 => (if 0 ≤ a2 then (if a2 < (t120.length : Int) then (some (t120.set (a2 : Int).toNat 0)) else (none)) else (none)))))))
theorem impl_recurrentOf.mono : ∀ a0 a1 a2 a3 k, LeO (impl_recurrentOf.f k a0 a1 a2 a3) (impl_recurrentOf.f (k + 1) a0 a1 a2 a3) := by
 intro a0 a1 a2 a3 k; unfold impl_recurrentOf.f; repeat' first | (with_reducible apply impl_FullPile.mono) | (with_reducible apply impl_NegateDivisor.mono) | (with_reducible apply impl_plus.mono) | (with_reducible apply impl_reduce.mono) | (with_reducible exact LeO.refl _) | (with_reducible exact LeO.none _) | (with_reducible refine LeO.ite ?_ ?_) | (with_reducible refine LeO.bind ?_ (fun _ => ?_)) | apply impl_FullPile.mono | apply impl_NegateDivisor.mono | apply impl_plus.mono | apply impl_reduce.mono | exact LeO.none _ | refine LeO.ite ?_ ?_ | refine LeO.bind ?_ (fun _ => ?_)
def spec_SumOfClasses.j0 : Nat → List Int → List Int → Bool → Int → List (S83) → Option (List Int × Bool)
 | 0, _, _, _, _, _ => none
 | k + 1, x1, x2, x21, x102000, x102001 => if x21 = true then (some (([] : List Int), false)) else ((spec_AddDivisors.f k x1 x2).bind fun bt104 => ((spec_l05Reduce.f k x102000 x102001 bt104.1 0).bind fun bt108 => (some (bt108.1, true))))
def spec_SumOfClasses.f (k : Nat) (a0_0 : Int) (l0_1 : List (S83)) (l1 : List Int) (l2 : List Int) : Option (List Int × Bool) := (spec_l09Zero.f k a0_0 l0_1 l1).bind fun t102 => (if t102 = true then ((spec_l09Zero.f k a0_0 l0_1 l2).bind fun t103 => (spec_SumOfClasses.j0 k l1 l2 (!t103) a0_0 l0_1)) else (spec_SumOfClasses.j0 k l1 l2 true a0_0 l0_1))
theorem spec_SumOfClasses.mono_l : ∀ k, (∀ y0 y1 y2 y3 y4, LeO (spec_SumOfClasses.j0 k y0 y1 y2 y3 y4) (spec_SumOfClasses.j0 (k + 1) y0 y1 y2 y3 y4))
 | 0 => fun _ _ _ _ _ r h => by simp [spec_SumOfClasses.j0] at h
 | k + 1 => by
  have ih0 := spec_SumOfClasses.mono_l k
  ·intro y0 y1 y2 y3 y4
   unfold spec_SumOfClasses.j0
   exact zm14
theorem spec_SumOfClasses.mono : ∀ a0 a1 a2 a3 k, LeO (spec_SumOfClasses.f k a0 a1 a2 a3) (spec_SumOfClasses.f (k + 1) a0 a1 a2 a3) := by
 intro a0 a1 a2 a3 k; have ih0 := spec_SumOfClasses.mono_l k; unfold spec_SumOfClasses.f; exact zm14
def impl_SumOfClasses.j0 : Nat → List Int → List Int → Bool → Int → List (S83) → Option (List Int × Bool)
 | 0, _, _, _, _, _ => none
 | k + 1, x1, x2, x19, x102000, x102001 => if x19 = true then (some (([] : List Int), false)) else ((impl_plus.f k x1 x2).bind fun t104 => ((impl_reduce.f k x102000 x102001 t104 0).bind fun bt107 => (some (bt107.1, true))))
def impl_SumOfClasses.f (k : Nat) (a0_0 : Int) (l0_1 : List (S83)) (l1 : List Int) (l2 : List Int) : Option (List Int × Bool) := (impl_ofDegreeZero.f k a0_0 l0_1 l1).bind fun t102 => (if t102 = true then ((impl_ofDegreeZero.f k a0_0 l0_1 l2).bind fun t103 => (impl_SumOfClasses.j0 k l1 l2 (!t103) a0_0 l0_1)) else (impl_SumOfClasses.j0 k l1 l2 true a0_0 l0_1))
theorem impl_SumOfClasses.mono_l : ∀ k, (∀ y0 y1 y2 y3 y4, LeO (impl_SumOfClasses.j0 k y0 y1 y2 y3 y4) (impl_SumOfClasses.j0 (k + 1) y0 y1 y2 y3 y4))
 | 0 => fun _ _ _ _ _ r h => by simp [impl_SumOfClasses.j0] at h
 | k + 1 => by
  have ih0 := impl_SumOfClasses.mono_l k
  ·intro y0 y1 y2 y3 y4
   unfold impl_SumOfClasses.j0
   exact zm16
theorem impl_SumOfClasses.mono : ∀ a0 a1 a2 a3 k, LeO (impl_SumOfClasses.f k a0 a1 a2 a3) (impl_SumOfClasses.f (k + 1) a0 a1 a2 a3) := by
 intro a0 a1 a2 a3 k; have ih0 := impl_SumOfClasses.mono_l k; unfold impl_SumOfClasses.f; exact zm16
def impl_RecurrentOf.f (k : Nat) (a0_0 : Int) (l0_1 : List (S83)) (l1 : List Int) (a2 : Int) : Option (List Int × Bool) := (impl_PileOk.f k a0_0 l0_1 l1 a2).bind fun t102 => (if t102 = true then ((impl_recurrentOf.f k a0_0 l0_1 l1 a2).bind fun t103 => (some (t103, true))) else (some (([] : List Int), false)))
theorem impl_RecurrentOf.mono : ∀ a0 a1 a2 a3 k, LeO (impl_RecurrentOf.f k a0 a1 a2 a3) (impl_RecurrentOf.f (k + 1) a0 a1 a2 a3) := by
 intro a0 a1 a2 a3 k; unfold impl_RecurrentOf.f; repeat' first | (with_reducible apply impl_PileOk.mono) | (with_reducible apply impl_recurrentOf.mono) | (with_reducible exact LeO.refl _) | (with_reducible exact LeO.none _) | (with_reducible refine LeO.ite ?_ ?_) | (with_reducible refine LeO.bind ?_ (fun _ => ?_)) | apply impl_PileOk.mono | apply impl_recurrentOf.mono | exact LeO.none _ | refine LeO.ite ?_ ?_ | refine LeO.bind ?_ (fun _ => ?_)
def spec_IdentityPile.f (k : Nat) (a0_0 : Int) (l0_1 : List (S83)) (a1 : Int) : Option (List Int × Bool) := (spec_GraphOk.f k a0_0 l0_1).bind fun t102 => (if t102 = true then ((spec_l01In.f a1 0 (wrap64 (a0_0 - 1))).bind fun t103 => (if t103 = true then (if 0 ≤ a0_0 then (if (a0_0 : Int).toNat ≤ 35184372088832 then ((spec_l11Class.f k a0_0 l0_1 (List.replicate (a0_0 : Int).toNat 0) a1).bind fun t107 => (some (t107, true))) else (none)) else (none)) else (some (([] : List Int), false)))) else (some (([] : List Int), false)))
theorem spec_IdentityPile.mono : ∀ a0 a1 a2 k, LeO (spec_IdentityPile.f k a0 a1 a2) (spec_IdentityPile.f (k + 1) a0 a1 a2) := by
 intro a0 a1 a2 k; unfold spec_IdentityPile.f; repeat' first | (with_reducible apply spec_GraphOk.mono) | (with_reducible apply spec_l11Class.mono) | (with_reducible exact LeO.refl _) | (with_reducible exact LeO.none _) | (with_reducible refine LeO.ite ?_ ?_) | (with_reducible refine LeO.bind ?_ (fun _ => ?_)) | apply spec_GraphOk.mono | apply spec_l11Class.mono | exact LeO.none _ | refine LeO.ite ?_ ?_ | refine LeO.bind ?_ (fun _ => ?_)
def impl_IdentityPile.f (k : Nat) (a0_0 : Int) (l0_1 : List (S83)) (a1 : Int) : Option (List Int × Bool) := (impl_isVertex.f a0_0 l0_1 a1).bind fun t102 => (if t102 = true then (if 0 ≤ a0_0 then (if (a0_0 : Int).toNat ≤ 35184372088832 then ((impl_recurrentOf.f k a0_0 l0_1 (List.replicate (a0_0 : Int).toNat 0) a1).bind fun t106 => (some (t106, true))) else (none)) else (none)) else (some (([] : List Int), false)))
theorem impl_IdentityPile.mono : ∀ a0 a1 a2 k, LeO (impl_IdentityPile.f k a0 a1 a2) (impl_IdentityPile.f (k + 1) a0 a1 a2) := by
 intro a0 a1 a2 k; unfold impl_IdentityPile.f; repeat' first | (with_reducible apply impl_recurrentOf.mono) | (with_reducible exact LeO.refl _) | (with_reducible exact LeO.none _) | (with_reducible refine LeO.ite ?_ ?_) | (with_reducible refine LeO.bind ?_ (fun _ => ?_)) | apply impl_recurrentOf.mono | exact LeO.none _ | refine LeO.ite ?_ ?_ | refine LeO.bind ?_ (fun _ => ?_)
def impl_InversePile.f (k : Nat) (a0_0 : Int) (l0_1 : List (S83)) (l1 : List Int) (a2 : Int) : Option (List Int × Bool) := (impl_IsRecurrent.f k a0_0 l0_1 l1 a2).bind fun t102 => (if t102 = true then ((impl_NegateDivisor.f k l1).bind fun t103 => ((impl_recurrentOf.f k a0_0 l0_1 t103 a2).bind fun t106 => (some (t106, true)))) else (some (([] : List Int), false)))
theorem impl_InversePile.mono : ∀ a0 a1 a2 a3 k, LeO (impl_InversePile.f k a0 a1 a2 a3) (impl_InversePile.f (k + 1) a0 a1 a2 a3) := by
 intro a0 a1 a2 a3 k; unfold impl_InversePile.f; repeat' first | (with_reducible apply impl_IsRecurrent.mono) | (with_reducible apply impl_NegateDivisor.mono) | (with_reducible apply impl_recurrentOf.mono) | (with_reducible exact LeO.refl _) | (with_reducible exact LeO.none _) | (with_reducible refine LeO.ite ?_ ?_) | (with_reducible refine LeO.bind ?_ (fun _ => ?_)) | apply impl_IsRecurrent.mono | apply impl_NegateDivisor.mono | apply impl_recurrentOf.mono | exact LeO.none _ | refine LeO.ite ?_ ?_ | refine LeO.bind ?_ (fun _ => ?_)
end Go.Proofs.Ytgobnfeahffnaaa.P
end

section
namespace Go.Proofs.Ytgobnfeahffnaaa.Cf
set_option linter.unusedVariables false
set_option linter.unusedSimpArgs false
/-- The full configuration less c. -/
def fullM (es : List E) (c : Int → Int) (v : Int) : Int := val es v - 1 - c v
/-- No forbidden set: each set without q has a vertex with at least as many chips as edges inside. -/
def NoForb (n : Nat) (es : List E) (q : Int) (c : Int → Int) : Prop := ∀ S : Int → Bool, S q = false → (∃ v : Int, 0 ≤ v ∧ v < n ∧ S v = true) → ∃ v : Int, 0 ≤ v ∧ v < n ∧ S v = true ∧ fullM es c v < lap es (ind S) v
theorem NoForb.more {n : Nat} {es : List E} {q : Int} {c c' : Int → Int} (h : NoForb n es q c) (hc : ∀ v : Int, 0 ≤ v → v < n → v ≠ q → c v ≤ c' v) : NoForb n es q c' := fun S hS hx => by
  obtain ⟨v, h0, h1, h2, h3⟩ := h S hS hx
  have hv : v ≠ q := by
    rintro rfl
    rw [hS] at h2
    cases h2
  have := hc v h0 h1 hv
  refine ⟨v, h0, h1, h2, ?_⟩
  unfold fullM at *
  omega
/-- A set less one vertex. -/
def del (S : Int → Bool) (v x : Int) : Bool := S x && decide (x ≠ v)
theorem ind_del {S : Int → Bool} {v : Int} (hv : S v = true) : ind S = fun x => ind (del S v) x + one v 1 x := by
  funext x
  unfold ind del one
  by_cases c : x = v
  · simp [c, hv]
  · simp [c]
theorem NoForb.topple {n : Nat} {es : List E} (hes : ∀ e ∈ es, EOk n e) {q : Int} {c : Int → Int} (h : NoForb n es q c) {v : Int} (hv : val es v ≤ c v) : NoForb n es q (fun w => c w - lap es (one v 1) w) := fun S hS hx => by
  by_cases hm : S v = true
  · by_cases hne : ∃ u : Int, 0 ≤ u ∧ u < n ∧ del S v u = true
    · obtain ⟨u, h0, h1, h2, h3⟩ := h (del S v) (by simp [del, hS]) hne
      have hu : S u = true ∧ u ≠ v := by simpa [del] using h2
      refine ⟨u, h0, h1, hu.1, ?_⟩
      show val es u - 1 - (c u - lap es (one v 1) u) < _
      rw [ind_del hm, lap_add]
      unfold fullM at h3
      omega
    · obtain ⟨u, h0, h1, h2⟩ := hx
      have huv : u = v := by
        apply Classical.byContradiction
        intro hc
        exact hne ⟨u, h0, h1, by simp [del, h2, hc]⟩
      subst huv
      refine ⟨u, h0, h1, hm, ?_⟩
      have hz : lap es (ind (del S u)) u = 0 := by
        refine (lap_congr hes (t := fun _ => 0) (fun w w0 w1 => ?_) u).trans (lap_const (c := 0) (fun _ _ => ⟨rfl, rfl⟩) u)
        unfold ind
        rw [if_neg]
        intro hd
        exact hne ⟨w, w0, w1, hd⟩
      show val es u - 1 - (c u - lap es (one u 1) u) < _
      rw [ind_del hm, lap_add, hz]
      have := lap_one_self hes u 1
      omega
  · obtain ⟨u, h0, h1, h2, h3⟩ := h S hS hx
    have huv : u ≠ v := by
      rintro rfl
      exact hm h2
    refine ⟨u, h0, h1, h2, ?_⟩
    have h4 := lap_one_ne hes huv 1
    have h5 := mult_nonneg es v u
    show val es u - 1 - (c u - lap es (one v 1) u) < _
    unfold fullM at h3
    omega
theorem NoForb.legal {n : Nat} {es : List E} (hes : ∀ e ∈ es, EOk n e) {q : Int} {p s : Int → Int} (h : NoForb n es q p) (hs : Legal n es q p s) : NoForb n es q (fun v => p v - lap es s v) := by
  induction hs with
  | zero =>
    refine h.more fun v _ _ _ => ?_
    rw [lap_const (c := 0) (fun _ _ => ⟨rfl, rfl⟩)]
    omega
  | @step s v _ h0 h1 hq hv ih =>
    refine (ih.topple hes hv).more fun w _ _ _ => ?_
    rw [lap_add]
    omega
/-- Each vertex but q, once; but those of U not yet. -/
def fired (q : Int) (U : Int → Bool) (v : Int) : Int := if v = q then 0 else if U v = true then 0 else 1
/-- No vertex ever holds more chips than there are. -/
theorem Legal.chips {n : Nat} {es : List E} (hes : ∀ e ∈ es, EOk n e) {q : Int} {p s : Int → Int} (h : Legal n es q p s) (hp : ∀ v : Int, 0 ≤ v → v < n → v ≠ q → 0 ≤ p v) (hpq : 0 ≤ p q) {v : Int} (h0 : 0 ≤ v) (h1 : v < n) : p v - lap es s v ≤ sumN n (fun i => p (i : Int)) := by
  have hk := h.keeps hes hp
  have hnn : ∀ i : Nat, i < n → 0 ≤ p (i : Int) - lap es s (i : Int) := by
    intro i hi
    by_cases c : (i : Int) = q
    · have := lap_le_zero (es := es) (r := s) (v := q) h.nonneg.1 h.nonneg.2
      rw [c]
      omega
    · exact hk i (by omega) (by omega) c
  have h2 := sumN_pos_term (n := n) (f := fun i => p (i : Int) - lap es s (i : Int)) hnn v.toNat (by omega)
  have e : ((v.toNat : Nat) : Int) = v := by omega
  simp only [e] at h2
  have h3 : sumN n (fun i => p (i : Int)) = sumN n (fun i => p (i : Int) - lap es s (i : Int)) := by
    have h4 := lap_sum (n := n) hes s
    have h5 := sumN_add n (fun i => p (i : Int) - lap es s (i : Int)) (fun i => lap es s (i : Int))
    rw [h4] at h5
    rw [← Int.add_zero (sumN n fun i => p (i : Int) - lap es s (i : Int)), ← h5]
    apply sumN_congr
    intro i _
    omega
  omega
end Go.Proofs.Ytgobnfeahffnaaa.Cf
end

section
namespace Go.Proofs.Ytgobnfeahffnaaa.Cf
set_option linter.unusedVariables false
set_option linter.unusedSimpArgs false
open Go.RowKit Go.Proofs.YtgobnfeahffnaaaW.PrintWords
/-- A recurrent configuration. -/
structure RecL (n : Nat) (es : List E) (q : Int) (c : List Int) : Prop where
  len : c.length = n
  at_q : rd c q = 0
  noForb : NoForb n es q (rd c)
  stable : Stable n es q (rd c)
  nonneg : ∀ v : Int, 0 ≤ v → v < n → v ≠ q → 0 ≤ rd c v
/-- Of one class, off q. -/
def Off (n : Nat) (es : List E) (q : Int) (p c : List Int) : Prop := ∃ t : Int → Int, ∀ v : Int, 0 ≤ v → v < n → v ≠ q → rd c v = rd p v - lap es t v
theorem Off.symm {n : Nat} {es : List E} {q : Int} {p c : List Int} (h : Off n es q p c) : Off n es q c p := by
  obtain ⟨t, ht⟩ := h
  refine ⟨fun v => - t v, fun v h0 h1 h2 => ?_⟩
  rw [lap_neg]
  have := ht v h0 h1 h2
  omega
theorem Off.trans {n : Nat} {es : List E} {q : Int} {p c d : List Int} (h : Off n es q p c) (k : Off n es q c d) : Off n es q p d := by
  obtain ⟨t, ht⟩ := h
  obtain ⟨u, hu⟩ := k
  refine ⟨fun v => t v + u v, fun v h0 h1 h2 => ?_⟩
  rw [lap_add]
  have := ht v h0 h1 h2
  have := hu v h0 h1 h2
  omega
theorem rd_plusL {n : Nat} {a b : List Int} (ha : a.length = n) {v : Int} (h0 : 0 ≤ v) (h1 : v < n) : rd (plusL a b) v = rd a v + rd b v := by
  unfold plusL
  exact (repL_rep a.length _).2 v h0 (by omega)
theorem Off.add {n : Nat} {es : List E} {q : Int} {a b a' b' : List Int} (ha : a.length = n) (ha' : a'.length = n) (h : Off n es q a a') (k : Off n es q b b') : Off n es q (plusL a b) (plusL a' b') := by
  obtain ⟨t, ht⟩ := h
  obtain ⟨u, hu⟩ := k
  refine ⟨fun v => t v + u v, fun v h0 h1 h2 => ?_⟩
  rw [lap_add, rd_plusL ha h0 h1, rd_plusL ha' h0 h1]
  have := ht v h0 h1 h2
  have := hu v h0 h1 h2
  omega
theorem Off.of {n : Nat} {es : List E} {q : Int} {p c : List Int} (h : ∀ v : Int, 0 ≤ v → v < n → rd c v = rd p v) : Off n es q p c :=
  ⟨fun _ => 0, fun v h0 h1 _ => by rw [h v h0 h1, lap_const (c := 0) (fun _ _ => ⟨rfl, rfl⟩)]; omega⟩
theorem NoForb.congr {n : Nat} {es : List E} {q : Int} {c c' : Int → Int} (h : NoForb n es q c) (he : ∀ v : Int, 0 ≤ v → v < n → v ≠ q → c' v = c v) : NoForb n es q c' := h.more fun v h0 h1 h2 => by rw [he v h0 h1 h2]; exact Int.le_refl _
theorem RecL.bd {n : Nat} {es : List E} {q : Int} (g : Gr n es q) {c : List Int} (h : RecL n es q c) : Bd c 12 := fun v h0 h1 => by
  have hl := h.len
  by_cases e : v = q
  · rw [e, h.at_q]; omega
  · have h1 := h.nonneg v h0 (by omega) e
    have h2 := h.stable v h0 (by omega) e
    have := val_le es v
    have := g.hel
    omega
theorem pile_of {n : Nat} {es : List E} {q : Int} (g : Gr n es q) (hg : GOk (n : Int) es) {c : List Int} (hl : c.length = n) (hq : rd c q = 0) (hnn : ∀ v : Int, 0 ≤ v → v < n → v ≠ q → 0 ≤ rd c v) (hb : Bd c 60) : pOk n es c q = true := by
  rw [pOk_iff]
  have hx : ∀ x ∈ c, 0 ≤ x ∧ x ≤ 60 := by
    intro x hx
    obtain ⟨i, hi, rfl⟩ := List.getElem_of_mem hx
    have h2 := hb i (by omega) (by omega)
    rw [rd_get hi] at h2
    refine ⟨?_, h2.2⟩
    by_cases e : (i : Int) = q
    · rw [← e, rd_get hi] at hq
      omega
    · have := hnn i (by omega) (by omega) e
      rw [rd_get hi] at this
      exact this
  exact ⟨⟨hg, by omega, fun x h => by have := hx x h; omega⟩, g.hq, fun x h => (hx x h).1, hq⟩
theorem unst_stable {n : Nat} {es : List E} {q : Int} {p : List Int} (hp : p.length = n) (hs : Stable n es q (rd p)) : unst n es q p p.length 0 < 0 := by
  rcases unst_ok n es q p p.length 0 with ⟨h1, _⟩ | ⟨h1, h2, h3, h4⟩
  · omega
  · have := hs (unst n es q p p.length 0) (by omega) (by omega) h3
    rw [valG_in ⟨by omega, by omega⟩] at h4
    omega
theorem RecL.sOk {n : Nat} {es : List E} {q : Int} (g : Gr n es q) (hg : GOk (n : Int) es) {c : List Int} (h : RecL n es q c) : sOk n es c q = true := by
  unfold Cf.sOk
  rw [pile_of g hg h.len h.at_q h.nonneg ((h.bd g).mono (by omega)), Bool.true_and, decide_eq_true_eq]
  exact unst_stable h.len h.stable
end Go.Proofs.Ytgobnfeahffnaaa.Cf
end

section
namespace Go.Proofs.Ytgobnfeahffnaaa.P
open Go.RowKit Go.Proofs.YtgobnfeahffnaaaW.PrintWords Go.Proofs.YtgobnfeahffnaaaW.PrintLast Go.Proofs.YtgobnfeahffnaaaW.PrintMore
attribute [local go_sem] max2_int min2_int max_two min_two max_three min_three max_four min_four
set_option linter.unusedVariables false
set_option linter.unusedSimpArgs false
def impl_burnt.l0 : Nat → List Int → List Int → List (S83) → Int → Int → Option (List Int)
 | 0, _, _, _, _, _ => none
 | k + 1, x1, x5, x9, x10, x11 => if x11 < x10 then (if 0 ≤ x11 then (if x11 < (x9.length : Int) then ((slices_Index_int_int.f k x1 ((rd_T83 x9 x11).f0)).bind fun t104 => ((slices_Index_int_int.f k x1 ((rd_T83 x9 x11).f1)).bind fun t105 => (if t104 < t105 then (if x5.length < 17592186044416 then (impl_burnt.l0 k x1 (x5 ++ [0]) x9 x10 (wrap64 (x11 + 1))) else (none)) else (if x5.length < 17592186044416 then (impl_burnt.l0 k x1 (x5 ++ [1]) x9 x10 (wrap64 (x11 + 1))) else (none))))) else (none)) else (none)) else (some x5)
def impl_burnt.f (k : Nat) (a0_0 : Int) (l0_1 : List (S83)) (l1 : List Int) : Option (List Int) := impl_burnt.l0 k l1 ([] : List Int) l0_1 (l0_1.length : Int) 0
theorem impl_burnt.mono_l : ∀ k, (∀ y0 y1 y2 y3 y4, LeO (impl_burnt.l0 k y0 y1 y2 y3 y4) (impl_burnt.l0 (k + 1) y0 y1 y2 y3 y4))
 | 0 => fun _ _ _ _ _ r h => by simp [impl_burnt.l0] at h
 | k + 1 => by
  have ih0 := impl_burnt.mono_l k
  ·intro y0 y1 y2 y3 y4
   unfold impl_burnt.l0
   exact zm22
theorem impl_burnt.mono : ∀ a0 a1 a2 k, LeO (impl_burnt.f k a0 a1 a2) (impl_burnt.f (k + 1) a0 a1 a2) := by
 intro a0 a1 a2 k; have ih0 := impl_burnt.mono_l k; unfold impl_burnt.f; exact zm22
def impl_winnable.f (k : Nat) (a0_0 : Int) (l0_1 : List (S83)) (l1 : List Int) : Option (Bool) := (impl_sumOf.f k l1).bind fun t102 => (if t102 < 0 then (some false) else ((impl_reduce.f k a0_0 l0_1 l1 0).bind fun bt103 => (if 0 < (bt103.1.length : Int) then (some (decide ((rd bt103.1 0) ≥ 0))) else (none))))
theorem impl_winnable.mono : ∀ a0 a1 a2 k, LeO (impl_winnable.f k a0 a1 a2) (impl_winnable.f (k + 1) a0 a1 a2) := by
 intro a0 a1 a2 k; unfold impl_winnable.f; repeat' first | (with_reducible apply impl_reduce.mono) | (with_reducible apply impl_sumOf.mono) | (with_reducible exact LeO.refl _) | (with_reducible exact LeO.none _) | (with_reducible refine LeO.ite ?_ ?_) | (with_reducible refine LeO.bind ?_ (fun _ => ?_)) | apply impl_reduce.mono | apply impl_sumOf.mono | exact LeO.none _ | refine LeO.ite ?_ ?_ | refine LeO.bind ?_ (fun _ => ?_)
def impl_OrientOk.f (k : Nat) (a0_0 : Int) (l0_1 : List (S83)) (l1 : List Int) : Option (Bool) := (impl_GraphOk.f a0_0 l0_1).bind fun t102 => (if t102 = true then (if (l1.length : Int) = (l0_1.length : Int) then ((impl_allWithin.f k l1 0 1).bind fun t103 => (some t103)) else (some false)) else (some false))
theorem impl_OrientOk.mono : ∀ a0 a1 a2 k, LeO (impl_OrientOk.f k a0 a1 a2) (impl_OrientOk.f (k + 1) a0 a1 a2) := by
 intro a0 a1 a2 k; unfold impl_OrientOk.f; exact zm26
def impl_ends.f (a0_0 : Int) (l0_1 : List (S83)) (l1 : List Int) (a2 : Int) : Option (Int × Int) := if 0 ≤ a2 then (if a2 < (l1.length : Int) then (if (rd l1 a2) = 0 then (if a2 < (l0_1.length : Int) then (some ((rd_T83 l0_1 a2).f0, (rd_T83 l0_1 a2).f1)) else (none)) else (if a2 < (l0_1.length : Int) then (some ((rd_T83 l0_1 a2).f1, (rd_T83 l0_1 a2).f0)) else (none))) else (none)) else (none)
mutual
def impl_DivisorOfOrient.l0 : Nat → List Int → List Int → Int → Int → Int → List (S83) → Option (List Int × Bool)
 | 0, _, _, _, _, _, _ => none
 | k + 1, x1, x6, x19, x20, x102000, x102001 => if x20 < x19 then (if 0 ≤ x20 then (if x20 < (x6.length : Int) then (impl_DivisorOfOrient.l0 k x1 (x6.set (x20 : Int).toNat (-1)) x19 (wrap64 (x20 + 1)) x102000 x102001) else (none)) else (none)) else (impl_DivisorOfOrient.l1 k x1 x6 (x1.length : Int) 0 x102000 x102001)
def impl_DivisorOfOrient.l1 : Nat → List Int → List Int → Int → Int → Int → List (S83) → Option (List Int × Bool)
 | 0, _, _, _, _, _, _ => none
 | k + 1, x1, x6, x28, x29, x102000, x102001 => if x29 < x28 then ((impl_ends.f x102000 x102001 x1 x29).bind fun bt107 => (if 0 ≤ bt107.2 then (if bt107.2 < (x6.length : Int) then (impl_DivisorOfOrient.l1 k x1 (x6.set (bt107.2 : Int).toNat (wrap64 ((rd x6 bt107.2) + 1))) x28 (wrap64 (x29 + 1)) x102000 x102001) else (none)) else (none))) else (some (x6, true))
end
def impl_DivisorOfOrient.f (k : Nat) (a0_0 : Int) (l0_1 : List (S83)) (l1 : List Int) : Option (List Int × Bool) := (impl_OrientOk.f k a0_0 l0_1 l1).bind fun t102 => (if t102 = true then (if 0 ≤ a0_0 then (if (a0_0 : Int).toNat ≤ 35184372088832 then ((some (List.replicate (a0_0 : Int).toNat 0 : List Int)).bind fun y103 => (impl_DivisorOfOrient.l0 k l1 y103 (y103.length : Int) 0 a0_0 l0_1)) else (none)) else (none)) else (some (([] : List Int), false)))
theorem impl_DivisorOfOrient.mono_l : ∀ k, (∀ y0 y1 y2 y3 y4 y5, LeO (impl_DivisorOfOrient.l0 k y0 y1 y2 y3 y4 y5) (impl_DivisorOfOrient.l0 (k + 1) y0 y1 y2 y3 y4 y5)) ∧ (∀ y0 y1 y2 y3 y4 y5, LeO (impl_DivisorOfOrient.l1 k y0 y1 y2 y3 y4 y5) (impl_DivisorOfOrient.l1 (k + 1) y0 y1 y2 y3 y4 y5))
 | 0 => ⟨fun _ _ _ _ _ _ r h => by simp [impl_DivisorOfOrient.l0] at h, fun _ _ _ _ _ _ r h => by simp [impl_DivisorOfOrient.l1] at h⟩
 | k + 1 => by
  obtain ⟨ih0, ih1⟩ := impl_DivisorOfOrient.mono_l k
  refine ⟨?_, ?_⟩
  ·intro y0 y1 y2 y3 y4 y5
   unfold impl_DivisorOfOrient.l0
   exact zm7
  ·intro y0 y1 y2 y3 y4 y5
   unfold impl_DivisorOfOrient.l1
   exact zm7
theorem impl_DivisorOfOrient.mono : ∀ a0 a1 a2 k, LeO (impl_DivisorOfOrient.f k a0 a1 a2) (impl_DivisorOfOrient.f (k + 1) a0 a1 a2) := by
 intro a0 a1 a2 k; obtain ⟨ih0, ih1⟩ := impl_DivisorOfOrient.mono_l k; unfold impl_DivisorOfOrient.f; exact zm7
end Go.Proofs.Ytgobnfeahffnaaa.P
end

section
namespace Go.Proofs.Ytgobnfeahffnaaa.P
open Go.RowKit Go.Proofs.YtgobnfeahffnaaaW.PrintWords Go.Proofs.YtgobnfeahffnaaaW.PrintLast Go.Proofs.YtgobnfeahffnaaaW.PrintMore
attribute [local go_sem] max2_int min2_int max_two min_two max_three min_three max_four min_four
set_option linter.unusedVariables false
set_option linter.unusedSimpArgs false
def impl_SourcesOf.l0 : Nat → List Int → List Int → Int → Int → Option (List Int)
 | 0, _, _, _, _ => none
 | k + 1, x7, x18, x19, x20 => if x20 < x19 then (if 0 ≤ x20 then (if x20 < (x18.length : Int) then (if (rd x18 x20) = (-1) then (if x7.length < 17592186044416 then (impl_SourcesOf.l0 k (x7 ++ [x20]) x18 x19 (wrap64 (x20 + 1))) else (none)) else (impl_SourcesOf.l0 k x7 x18 x19 (wrap64 (x20 + 1)))) else (none)) else (none)) else (some x7)
def impl_SourcesOf.f (k : Nat) (a0_0 : Int) (l0_1 : List (S83)) (l1 : List Int) : Option (List Int) := (impl_DivisorOfOrient.f k a0_0 l0_1 l1).bind fun bt102 => (if bt102.2 = true then (impl_SourcesOf.l0 k ([] : List Int) bt102.1 (bt102.1.length : Int) 0) else (some ([] : List Int)))
theorem impl_SourcesOf.mono_l : ∀ k, (∀ y0 y1 y2 y3, LeO (impl_SourcesOf.l0 k y0 y1 y2 y3) (impl_SourcesOf.l0 (k + 1) y0 y1 y2 y3))
 | 0 => fun _ _ _ _ r h => by simp [impl_SourcesOf.l0] at h
 | k + 1 => by
  have ih0 := impl_SourcesOf.mono_l k
  ·intro y0 y1 y2 y3
   unfold impl_SourcesOf.l0
   exact zm23
theorem impl_SourcesOf.mono : ∀ a0 a1 a2 k, LeO (impl_SourcesOf.f k a0 a1 a2) (impl_SourcesOf.f (k + 1) a0 a1 a2) := by
 intro a0 a1 a2 k; have ih0 := impl_SourcesOf.mono_l k; unfold impl_SourcesOf.f; exact zm23
end Go.Proofs.Ytgobnfeahffnaaa.P
end

section
namespace Go.Proofs.Ytgobnfeahffnaaa.Cf
set_option linter.unusedVariables false
set_option linter.unusedSimpArgs false
open Go.RowKit Go.Proofs.YtgobnfeahffnaaaW.PrintWords Go.Proofs.Ytgobnfeahffnaaa.P
/-- Where an edge points to. -/
def headO (e : E) (x : Int) : Int := if x = 0 then e.f1 else e.f0
def tailO (e : E) (x : Int) : Int := if x = 0 then e.f0 else e.f1
end Go.Proofs.Ytgobnfeahffnaaa.Cf
end

