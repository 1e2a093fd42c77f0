/- A part of the proof of FnExactTimesClass. -/
import Derived.Test.YtgobnfeahffnaabBFnExactTimesClass2
import Derived.Test.YtgobnfeahffnaabBFnExactTimesClass0
import Derived.Test.YtgobnfeahffnaabBFnExactTimesClass1
import Derived.Deep.Slices
import Derived.Lib.SmallJoins
import Derived.ChangeSame
import Derived.Test.YtgobnfeahffnaabRows
import Derived.JoinedOf
import Derived.KernelRfl
section
namespace Go.Proofs.Ytgobnfeahffnaab.P
open Go.RowKit Go.Proofs.YtgobnfeahffnaabW.PrintWords Go.Proofs.YtgobnfeahffnaabW.PrintLast Go.Proofs.YtgobnfeahffnaabW.PrintMore
attribute [local go_sem] max2_int min2_int max_two min_two max_three min_three max_four min_four
set_option linter.unusedVariables false
set_option linter.unusedSimpArgs false
mutual
def laws_FnExactTimesClass.j0 : Nat → List Int → Int → List Int → Bool → List Int → List Int → Bool → Bool → Int → List (S56) → Int → List (S54) → Option (Bool)
 | 0, _, _, _, _, _, _, _, _, _, _, _, _ => none
 | k + 1, x1, x2, x8, x9, x11, x12, x13, x55, x102000, x102001, x119000, x119001 => if x55 = true then (none) else ((laws_toGraph.f k x102000 x102001).bind fun bt127 => ((laws_eqGraph.f k x119000 x119001 bt127.1 bt127.2).bind fun t131 => (if t131 = true then ((laws_toIntS.f k x1).bind fun t132 => ((laws_eqIntS.f k x11 t132).bind fun t135 => (if t135 = true then ((laws_markGraph.f k x119000 x119001 1).bind fun bt136 => ((laws_markIntS.f k x11 bt136.1).bind fun bt138 => (if bt138.1 < 0 then (laws_FnExactTimesClass.j1 k x1 x2 x8 x9 x12 true x102000 x102001) else ((laws_eqIntS.f k x12 x8).bind fun t140 => (if t140 = true then (laws_FnExactTimesClass.j1 k x1 x2 x8 x9 x12 (x13 != x9) x102000 x102001) else (laws_FnExactTimesClass.j1 k x1 x2 x8 x9 x12 true x102000 x102001)))))) else (none)))) else (none))))
def laws_FnExactTimesClass.j1 : Nat → List Int → Int → List Int → Bool → List Int → Bool → Int → List (S56) → Option (Bool)
 | 0, _, _, _, _, _, _, _, _ => none
 | k + 1, x1, x2, x8, x9, x12, x84, x102000, x102001 => if x84 = true then (none) else ((laws_markIntS.f k x12 1).bind fun bt141 => ((laws_heldIntS.f k bt141.2 1).bind fun t143 => (if t143 < 0 then (none) else (if t143 = bt141.1 then ((laws_toGraph.f k x102000 x102001).bind fun bt144 => ((laws_toIntS.f k x1).bind fun t148 => ((impl_TimesClass.f k bt144.1 bt144.2 t148 x2).bind fun bt151 => ((laws_eqIntS.f k bt151.1 x8).bind fun t155 => (if t155 = true then (laws_FnExactTimesClass.j2 k bt141.2 bt141.1 (bt151.2 != x9)) else (laws_FnExactTimesClass.j2 k bt141.2 bt141.1 true)))))) else (none)))))
def laws_FnExactTimesClass.j2 : Nat → List Int → Int → Bool → Option (Bool)
 | 0, _, _, _ => none
 | k + 1, x12, x15, x113 => if x113 = true then (none) else ((laws_heldIntS.f k x12 1).bind fun t156 => (if t156 < 0 then (none) else (if t156 = x15 then (some true) else (none))))
end
def laws_FnExactTimesClass.f (k : Nat) (a0_0 : Int) (l0_1 : List (S56)) (l1 : List Int) (a2 : Int) : Option (Bool) := if (l1.length : Int) > 1048576 then (some true) else ((laws_szGraph.f a0_0 l0_1 1048576).bind fun t102 => (if t102 < 0 then (some true) else ((laws_toGraph.f k a0_0 l0_1).bind fun bt103 => ((laws_toIntS.f k l1).bind fun t107 => ((spec_TimesClass.f k bt103.1 bt103.2 t107 a2).bind fun bt110 => ((laws_toGraph.f k a0_0 l0_1).bind fun bt114 => ((laws_toIntS.f k l1).bind fun t119 => ((impl_TimesClass.f k bt114.1 bt114.2 t119 a2).bind fun bt122 => ((laws_eqIntS.f k bt122.1 bt110.1).bind fun t126 => (if t126 = true then (laws_FnExactTimesClass.j0 k l1 a2 bt110.1 bt110.2 t119 bt122.1 bt122.2 (bt122.2 != bt110.2) a0_0 l0_1 bt114.1 bt114.2) else (laws_FnExactTimesClass.j0 k l1 a2 bt110.1 bt110.2 t119 bt122.1 bt122.2 true a0_0 l0_1 bt114.1 bt114.2)))))))))))
theorem laws_FnExactTimesClass.mono_l : ∀ k, (∀ y0 y1 y2 y3 y4 y5 y6 y7 y8 y9 y10 y11, LeO (laws_FnExactTimesClass.j0 k y0 y1 y2 y3 y4 y5 y6 y7 y8 y9 y10 y11) (laws_FnExactTimesClass.j0 (k + 1) y0 y1 y2 y3 y4 y5 y6 y7 y8 y9 y10 y11)) ∧ (∀ y0 y1 y2 y3 y4 y5 y6 y7, LeO (laws_FnExactTimesClass.j1 k y0 y1 y2 y3 y4 y5 y6 y7) (laws_FnExactTimesClass.j1 (k + 1) y0 y1 y2 y3 y4 y5 y6 y7)) ∧ (∀ y0 y1 y2, LeO (laws_FnExactTimesClass.j2 k y0 y1 y2) (laws_FnExactTimesClass.j2 (k + 1) y0 y1 y2))
 | 0 => ⟨fun _ _ _ _ _ _ _ _ _ _ _ _ r h => by simp [laws_FnExactTimesClass.j0] at h, fun _ _ _ _ _ _ _ _ r h => by simp [laws_FnExactTimesClass.j1] at h, fun _ _ _ r h => by simp [laws_FnExactTimesClass.j2] at h⟩
 | k + 1 => by
  obtain ⟨ih0, ih1, ih2⟩ := laws_FnExactTimesClass.mono_l k
  refine ⟨?_, ?_, ?_⟩
  ·intro y0 y1 y2 y3 y4 y5 y6 y7 y8 y9 y10 y11
   unfold laws_FnExactTimesClass.j0
   exact zm2
  ·intro y0 y1 y2 y3 y4 y5 y6 y7
   unfold laws_FnExactTimesClass.j1
   exact zm2
  ·intro y0 y1 y2
   unfold laws_FnExactTimesClass.j2
   exact zm2
theorem laws_FnExactTimesClass.mono : ∀ a0 a1 a2 a3 k, LeO (laws_FnExactTimesClass.f k a0 a1 a2 a3) (laws_FnExactTimesClass.f (k + 1) a0 a1 a2 a3) := by
 intro a0 a1 a2 a3 k; obtain ⟨ih0, ih1, ih2⟩ := laws_FnExactTimesClass.mono_l k; unfold laws_FnExactTimesClass.f; exact zm2
set_option maxHeartbeats 8000000 in
set_option maxRecDepth 100000 in
theorem laws_FnExactTimesClass.calls (k : Nat) (a0_0 : Int) (A0_1 : Option Addr) (c0_1 : Nat) (l0_1 : List (S56)) (A1 : Option Addr) (c1 : Nat) (l1 : List Int) (a2 : Int) (r : Bool) (w : World) (hr0_1 : Kd.C k56 w A0_1 l0_1.length l0_1) (hc0_1 : l0_1.length ≤ c0_1) (hr1 : Kd.C (Kd.int .i64) w A1 l1.length l1) (hc1 : l1.length ≤ c1) (h : laws_FnExactTimesClass.f k a0_0 l0_1 l1 a2 = some r) :
  Calls Try.prog 4 #[.agg #[.int .i64 a0_0, .slice A0_1 l0_1.length c0_1], .slice A1 l1.length c1, .int .i64 a2] w fun e w' => e = .returned (.bool r) ∧ Below w.heap.size w w' := by
 have hu24 := Try.underlying24; have hu31 := Try.underlying31; have HR0_1 := Aside0.mk hr0_1; have HC0_1 := Aside0.mk hc0_1; clear hr0_1 hc0_1; have HR1 := Aside0.mk hr1; have HC1 := Aside0.mk hc1; clear hr1 hc1; have HB := Aside0.mk (Below.refl w.heap.size w); have H : (if (l1.length : Int) > 1048576 then (some true) else ((laws_szGraph.f a0_0 l0_1 1048576).bind fun t102 => (if t102 < 0 then (some true) else ((laws_toGraph.f k a0_0 l0_1).bind fun bt103 => ((laws_toIntS.f k l1).bind fun t107 => ((spec_TimesClass.f k bt103.1 bt103.2 t107 a2).bind fun bt110 => ((laws_toGraph.f k a0_0 l0_1).bind fun bt114 => ((laws_toIntS.f k l1).bind fun t119 => ((impl_TimesClass.f k bt114.1 bt114.2 t119 a2).bind fun bt122 => ((laws_eqIntS.f k bt122.1 bt110.1).bind fun t126 => (if t126 = true then (laws_FnExactTimesClass.j0 k l1 a2 bt110.1 bt110.2 t119 bt122.1 bt122.2 (bt122.2 != bt110.2) a0_0 l0_1 bt114.1 bt114.2) else (laws_FnExactTimesClass.j0 k l1 a2 bt110.1 bt110.2 t119 bt122.1 bt122.2 true a0_0 l0_1 bt114.1 bt114.2)))))))))))) = some r := h; clear h; by_cases c4 : (l1.length : Int) > 1048576
 ·rw [if_pos c4] at H; have c4b0 : decide (1048576 < (l1.length : Int)) = true := decide_eq_true c4; have c4b1 : decide (1048576 < l1.length) = true := decide_eq_true (by omega); clear c4; obtain rfl := Option.some.inj H; go_enter Try.func4, Try.ntmps4; (go_wp2_with (first | ((with_reducible refine gate_dst (N := 3) rfl ?_); refine box_event ?hg (N := 3) ?hd (cs := #[.int .i64 a0_0, .slice A0_1 l0_1.length c0_1]) (t := 24) ?hr ?_; (case hd => rfl); (case hg => rfl); (case hr => exact zz13); intro gb101 hg w5 hbox hb; have n_ := zA4 (below_step zz2 hb) hbox (zz12 : w.heap.size ≤ gb101) (zz12 : w.heap.size ≤ gb101); clear HB; obtain ⟨HB, BK101, GW101, GE101⟩ := n_; clear hb hbox hg))); go_ret; exact ⟨zz7, zz0⟩
 rw [if_neg c4] at H; have c4b0 : decide (1048576 < (l1.length : Int)) = false := decide_eq_false c4; have c4b1 : decide (1048576 < l1.length) = false := decide_eq_false (by omega); clear c4; replace H := Option.bind_eq_some_iff.mp H; obtain ⟨t102, A60, H⟩ := H; (try dsimp only at H); have A6 := Aside0.mk A60; clear A60; by_cases c7 : t102 < 0
 ·rw [if_pos c7] at H; have c7b0 := decide_eq_true c7; clear c7; obtain rfl := Option.some.inj H; go_enter Try.func4, Try.ntmps4; (go_wp2_with (first | ((with_reducible refine gate_dst (N := 3) rfl ?_); refine box_event ?hg (N := 3) ?hd (cs := #[.int .i64 a0_0, .slice A0_1 l0_1.length c0_1]) (t := 24) ?hr ?_; (case hd => rfl); (case hg => rfl); (case hr => exact zz13); intro gb101 hg w8 hbox hb; have n_ := zA4 (below_step zz2 hb) hbox (zz12 : w.heap.size ≤ gb101) (zz12 : w.heap.size ≤ gb101); clear HB; obtain ⟨HB, BK101, GW101, GE101⟩ := n_; clear hb hbox hg; have hcz9_0 := zC20 BK101; have hcz9_1 := zC21 BK101; have hfz9_0 := blk_frozen BK101.out 0; have hfz9_1 := blk_frozen BK101.out 1) | ((with_reducible refine gate_callee (f := 7) rfl ?_); refine goesL_ (some 24) rfl rfl Try.func7 (by kernel_rfl) rfl #[.agg #[.int .i64 a0_0, .slice A0_1 l0_1.length c0_1], .int .i64 1048576] rfl zz3 ?_; (with_reducible refine (laws_szGraph.calls a0_0 _ _ l0_1 1048576 t102 _ ?side1 ?side2 A6.out).mono ?_); (case side1 => exact zz5); (case side2 => exact HC0_1.out); rintro e w10 ⟨rfl, hb⟩; refine ⟨_, rfl, ?_⟩; have n_ := zA2 (blk_below (g := gb101) (o := .cells #[.int .i64 a0_0, .slice A0_1 l0_1.length c0_1] 24 (0, 0)) zz1 hb) (below_step zz0 hb); clear BK101 HB; obtain ⟨BK101, HB⟩ := n_; clear hb))); go_ret; exact ⟨zz7, zz0⟩
 rw [if_neg c7] at H; have c7b0 := decide_eq_false c7; clear c7; replace H := Option.bind_eq_some_iff.mp H; obtain ⟨⟨t103, t104⟩, A110, H⟩ := H; dsimp only at H; have A11 := Aside0.mk A110; clear A110; replace H := Option.bind_eq_some_iff.mp H; obtain ⟨t107, A120, H⟩ := H; (try dsimp only at H); have A12 := Aside0.mk A120; clear A120; replace H := Option.bind_eq_some_iff.mp H; obtain ⟨⟨t110, t113⟩, A130, H⟩ := H; dsimp only at H; have A13 := Aside0.mk A130; clear A130; replace H := Option.bind_eq_some_iff.mp H; obtain ⟨⟨t114, t115⟩, A140, H⟩ := H; dsimp only at H; have A14 := Aside0.mk A140; clear A140; replace H := Option.bind_eq_some_iff.mp H; obtain ⟨t119, A150, H⟩ := H; (try dsimp only at H); have A15 := Aside0.mk A150; clear A150; replace H := Option.bind_eq_some_iff.mp H; obtain ⟨⟨t122, t125⟩, A160, H⟩ := H; dsimp only at H; have A16 := Aside0.mk A160; clear A160; have HC17 := Aside0.mk H; clear H; go_enter Try.func4, Try.ntmps4; (go_upto_region 11 with (first | ((with_reducible refine gate_dst (N := 3) rfl ?_); refine box_event ?hg (N := 3) ?hd (cs := #[.int .i64 a0_0, .slice A0_1 l0_1.length c0_1]) (t := 24) ?hr ?_; (case hd => rfl); (case hg => rfl); (case hr => exact zz13); intro gb101 hg w18 hbox hb; have n_ := zA4 (below_step zz2 hb) hbox (zz12 : w.heap.size ≤ gb101) (zz12 : w.heap.size ≤ gb101); clear HB; obtain ⟨HB, BK101, GW101, GE101⟩ := n_; clear hb hbox hg; have hcz19_0 := zC20 BK101; have hcz19_1 := zC21 BK101; have hfz19_0 := blk_frozen BK101.out 0; have hfz19_1 := blk_frozen BK101.out 1) | ((with_reducible refine gate_callee (f := 7) rfl ?_); refine goesL_ (some 24) rfl rfl Try.func7 (by kernel_rfl) rfl #[.agg #[.int .i64 a0_0, .slice A0_1 l0_1.length c0_1], .int .i64 1048576] rfl zz3 ?_; (with_reducible refine (laws_szGraph.calls a0_0 _ _ l0_1 1048576 t102 _ ?side1 ?side2 A6.out).mono ?_); (case side1 => exact zz5); (case side2 => exact HC0_1.out); rintro e w20 ⟨rfl, hb⟩; refine ⟨_, rfl, ?_⟩; have n_ := zA2 (blk_below (g := gb101) (o := .cells #[.int .i64 a0_0, .slice A0_1 l0_1.length c0_1] 24 (0, 0)) zz1 hb) (below_step zz0 hb); clear BK101 HB; obtain ⟨BK101, HB⟩ := n_; clear hb; have hcz21_0 := zC20 BK101; have hcz21_1 := zC21 BK101; have hfz21_0 := blk_frozen BK101.out 0; have hfz21_1 := blk_frozen BK101.out 1) | ((with_reducible refine gate_callee (f := 9) rfl ?_); refine goesL_ (some 29) rfl rfl Try.func9 (by kernel_rfl) rfl #[.agg #[.int .i64 a0_0, .slice A0_1 l0_1.length c0_1]] rfl zz3 ?_; (with_reducible refine (laws_toGraph.calls k a0_0 _ _ l0_1 t103 t104 _ ?side1 ?side2 A11.out).mono ?_); (case side1 => exact zz5); (case side2 => exact HC0_1.out); rintro e w22 ⟨v105, rfl, ho0, hb⟩; refine ⟨_, rfl, ?_⟩; have n_ := zA3 (Kd.R_lower ho0 (below_size zz0)) (blk_below (g := gb101) (o := .cells #[.int .i64 a0_0, .slice A0_1 l0_1.length c0_1] 24 (0, 0)) zz1 hb) (below_step zz0 hb); clear BK101 HB; obtain ⟨HO106, BK101, HB⟩ := n_; clear ho0 hb) | ((with_reducible refine gate_callee (f := 10) rfl ?_); refine goesL_ (some 31) rfl rfl Try.func10 (by kernel_rfl) rfl #[.slice A1 l1.length c1] rfl zz3 ?_; (with_reducible refine (laws_toIntS.calls k _ _ l1 t107 _ ?side1 ?side2 A12.out).mono ?_); (case side1 => exact zz11); (case side2 => exact HC1.out); rintro e w23 ⟨v108, rfl, ho0, hb⟩; refine ⟨_, rfl, ?_⟩; have n_ := zA4 (Kd.R_below zz24 hb) (Kd.R_lower ho0 (below_size zz0)) (blk_below (g := gb101) (o := .cells #[.int .i64 a0_0, .slice A0_1 l0_1.length c0_1] 24 (0, 0)) zz1 hb) (below_step zz0 hb); clear HO106 BK101 HB; obtain ⟨HO106, HO109, BK101, HB⟩ := n_; clear ho0 hb; obtain ⟨Ao24, co24, eo24⟩ := Kd.R_slice HO106.out; subst eo24; obtain ⟨Ao25, co25, eo25⟩ := Kd.R_slice HO109.out; subst eo25) | ((with_reducible refine gate_callee (f := 17) rfl ?_); refine goesL_ (some 33) rfl rfl Try.func17 (by kernel_rfl) rfl #[.agg #[.int .i64 t103, .slice Ao24 t104.length co24], .slice Ao25 t107.length co25, .int .i64 a2] rfl zz3 ?_; (with_reducible refine (spec_TimesClass.calls k t103 _ _ t104 _ _ t107 a2 t110 t113 _ ?side1 ?side2 ?side3 ?side4 A13.out).mono ?_); (case side1 => repeat (first | exact (Kd.R_reads' HO106.out).2.2 | (with_reducible refine Kd.C_alloc ?_ _) | (with_reducible refine Kd.C_drewN ?_ _) | (with_reducible refine Kd.C_drew ?_))); (case side2 => exact (Kd.R_reads' HO106.out).2.1); (case side3 => repeat (first | exact (Kd.R_reads' HO109.out).2.2 | (with_reducible refine Kd.C_alloc ?_ _) | (with_reducible refine Kd.C_drewN ?_ _) | (with_reducible refine Kd.C_drew ?_))); (case side4 => exact (Kd.R_reads' HO109.out).2.1); rintro e w26 ⟨v111, rfl, ho0, hb⟩; refine ⟨_, rfl, ?_⟩; have n_ := zA5 (Kd.R_below zz24 hb) (Kd.R_elder' zz30 (Kd.R_base ho0) hb) (Kd.R_lower (Kd.R_new' ho0 (Kd.R_lt zz30)) (below_size zz0)) (blk_below (g := gb101) (o := .cells #[.int .i64 a0_0, .slice A0_1 l0_1.length c0_1] 24 (0, 0)) zz1 hb) (below_step zz0 hb); clear HO106 HO109 BK101 HB; obtain ⟨HO106, HO109, HO112, BK101, HB⟩ := n_; clear ho0 hb; have hcz27_0 := zC20 BK101; have hcz27_1 := zC21 BK101; have hfz27_0 := blk_frozen BK101.out 0; have hfz27_1 := blk_frozen BK101.out 1) | ((with_reducible refine gate_callee (f := 9) rfl ?_); refine goesL_ (some 37) rfl rfl Try.func9 (by kernel_rfl) rfl #[.agg #[.int .i64 a0_0, .slice A0_1 l0_1.length c0_1]] rfl zz3 ?_; (with_reducible refine (laws_toGraph.calls k a0_0 _ _ l0_1 t114 t115 _ ?side1 ?side2 A14.out).mono ?_); (case side1 => exact zz5); (case side2 => exact HC0_1.out); rintro e w28 ⟨v116, rfl, ho0, hb⟩; refine ⟨_, rfl, ?_⟩; have n_ := zA6 (Kd.R_elder' zz24 (Kd.R_base ho0) hb) (Kd.R_below zz30 hb) (Kd.R_below zz50 hb) (Kd.R_lower (Kd.R_new' ho0 (Kd.R_lt zz24)) (below_size zz0)) (blk_below (g := gb101) (o := .cells #[.int .i64 a0_0, .slice A0_1 l0_1.length c0_1] 24 (0, 0)) zz1 hb) (below_step zz0 hb); clear HO106 HO109 HO112 BK101 HB; obtain ⟨HO106, HO109, HO112, HO117, BK101, HB⟩ := n_; clear ho0 hb) | ((with_reducible refine gate_dst (N := 10) rfl ?_); refine box_event ?hg (N := 10) ?hd (cs := #[.int .i64 0, .slice none 0 0]) (t := 31) ?hr ?_; (case hd => rfl); (case hg => rfl); (case hr => exact zz13); intro gb118 hg w29 hbox hb; have n_ := zA11 (Kd.R_below zz24 hb) (Kd.R_below zz30 hb) (Kd.R_below zz50 hb) (Kd.R_below (by (with_reducible repeat (first | apply Kd.R_alloc | apply Kd.R_drewN | apply Kd.R_drew)); exact HO117.out) hb) (blk_below (g := gb101) (o := .cells #[.int .i64 a0_0, .slice A0_1 l0_1.length c0_1] 24 (0, 0)) zz1 hb) (below_step zz0 hb) hbox (zz16 : w.heap.size ≤ gb118) (zz16 : w.heap.size ≤ gb118) (by rw [hg]; exact Nat.ne_of_lt (blk_lt (g := gb101) (o := .cells #[.int .i64 a0_0, .slice A0_1 l0_1.length c0_1] 24 (0, 0)) zz1) : gb101 ≠ gb118) (by rw [hg]; exact Nat.ne_of_gt (blk_lt (g := gb101) (o := .cells #[.int .i64 a0_0, .slice A0_1 l0_1.length c0_1] 24 (0, 0)) zz1) : gb118 ≠ gb101); clear HO106 HO109 HO112 HO117 BK101 HB; obtain ⟨HO106, HO109, HO112, HO117, BK101, HB, BK118, GW118, GE118, NB101_118, NB118_101⟩ := n_; clear hb hbox hg; have hnb30 := NB118_101.out; have hnc30 := NB101_118.out; have hcz31_0 := zC20 BK118; have hcz31_1 := zC21 BK118; have hfz31_0 := blk_frozen BK118.out 0; have hfz31_1 := blk_frozen BK118.out 1; obtain ⟨Ao32, co32, eo32⟩ := Kd.R_slice HO117.out; subst eo32) | ((with_reducible refine gate_callee (f := 10) rfl ?_); refine goesL_ (some 39) rfl rfl Try.func10 (by kernel_rfl) rfl #[.slice A1 l1.length c1] rfl zz3 ?_; (with_reducible refine (laws_toIntS.calls k _ _ l1 t119 _ ?side1 ?side2 A15.out).mono ?_); (case side1 => exact Kd.C_below HR1.out zz14); (case side2 => exact HC1.out); rintro e w33 ⟨v120, rfl, ho0, hb⟩; refine ⟨_, rfl, ?_⟩; have n_ := zA8 (Kd.R_below (by (with_reducible repeat (first | apply Kd.R_alloc | apply Kd.R_drewN | apply Kd.R_drew)); exact (Kd.R_mono (Kd.R_far (p := ⟨gb118, 1, none⟩) (Kd.R_far (p := ⟨gb118, 0, none⟩) (Kd.R_types HO106.out BK118.out (by decide)) (fun _ hk => hk.2) (.int .i64 t114)) (fun _ hk => hk.2) (.slice Ao32 t115.length co32)) (fun _ h_ => h_.1))) hb) (Kd.R_elder' zz77 (Kd.R_base ho0) hb) (Kd.R_elder' zz78 (Kd.R_base ho0) hb) (Kd.R_below (by (with_reducible repeat (first | apply Kd.R_alloc | apply Kd.R_drewN | apply Kd.R_drew)); exact (Kd.R_mono (Kd.R_far (p := ⟨gb118, 1, none⟩) (Kd.R_far (p := ⟨gb118, 0, none⟩) (Kd.R_types HO117.out BK118.out (by decide)) (fun _ hk => hk.2) (.int .i64 t114)) (fun _ hk => hk.2) (.slice Ao32 t115.length co32)) (fun _ h_ => h_.1))) hb) (Kd.R_lower (Kd.R_new' (Kd.R_new' ho0 (Kd.R_lt zz77)) (Kd.R_lt zz78)) (below_size zz14)) (blk_below (g := gb101) (o := .cells #[.int .i64 a0_0, .slice A0_1 l0_1.length c0_1] 24 (0, 0)) (by (with_reducible repeat (first | refine blk_drewN ?_ _ | refine blk_drew ?_ | refine blk_alloc ?_ _)); refine blk_far ?_ NB101_118.out _; (with_reducible repeat (first | refine blk_drewN ?_ _ | refine blk_drew ?_ | refine blk_alloc ?_ _)); refine blk_far ?_ NB101_118.out _; (with_reducible repeat (first | refine blk_drewN ?_ _ | refine blk_drew ?_ | refine blk_alloc ?_ _)); exact BK101.out) hb) (blk_below (g := gb118) (o := .cells #[.int .i64 t114, .slice Ao32 t115.length co32] 31 (0, 0)) (by (with_reducible repeat (first | refine blk_drewN ?_ _ | refine blk_drew ?_ | refine blk_alloc ?_ _)); refine blk_put (cs := #[.int .i64 t114, .slice none 0 0]) ?_ 1 _ rfl; (with_reducible repeat (first | refine blk_drewN ?_ _ | refine blk_drew ?_ | refine blk_alloc ?_ _)); refine blk_put (cs := #[.int .i64 0, .slice none 0 0]) ?_ 0 _ rfl; (with_reducible repeat (first | refine blk_drewN ?_ _ | refine blk_drew ?_ | refine blk_alloc ?_ _)); exact BK118.out) hb) (below_step zz14 hb); clear HO106 HO109 HO112 HO117 BK101 BK118 HB; obtain ⟨HO106, HO109, HO112, HO117, HO121, BK101, BK118, HB⟩ := n_; clear ho0 hb; have hcz34_0 := zC20 BK118; have hcz34_1 := zC21 BK118; have hfz34_0 := blk_frozen BK118.out 0; have hfz34_1 := blk_frozen BK118.out 1; obtain ⟨Ao35, co35, eo35⟩ := Kd.R_slice HO121.out; subst eo35) | ((with_reducible refine gate_callee (f := 18) rfl ?_); refine goesL_ (some 44) rfl rfl Try.func18 (by kernel_rfl) rfl #[.agg #[.int .i64 t114, .slice Ao32 t115.length co32], .slice Ao35 t119.length co35, .int .i64 a2] rfl zz3 ?_; (with_reducible refine (impl_TimesClass.calls k t114 _ _ t115 _ _ t119 a2 t122 t125 _ ?side1 ?side2 ?side3 ?side4 A16.out).mono ?_); (case side1 => repeat (first | exact (Kd.R_reads' HO117.out).2.2 | (with_reducible refine Kd.C_alloc ?_ _) | (with_reducible refine Kd.C_drewN ?_ _) | (with_reducible refine Kd.C_drew ?_))); (case side2 => exact (Kd.R_reads' HO117.out).2.1); (case side3 => repeat (first | exact (Kd.R_reads' HO121.out).2.2 | (with_reducible refine Kd.C_alloc ?_ _) | (with_reducible refine Kd.C_drewN ?_ _) | (with_reducible refine Kd.C_drew ?_))); (case side4 => exact (Kd.R_reads' HO121.out).2.1); rintro e w36 ⟨v123, rfl, ho0, hb⟩; refine ⟨_, rfl, ?_⟩; have n_ := zA9 (Kd.R_below zz24 hb) (Kd.R_elder' zz30 (Kd.R_base ho0) hb) (Kd.R_elder' zz50 (Kd.R_base ho0) hb) (Kd.R_below (by (with_reducible repeat (first | apply Kd.R_alloc | apply Kd.R_drewN | apply Kd.R_drew)); exact HO117.out) hb) (Kd.R_elder' zz32 (Kd.R_base ho0) hb) (Kd.R_lower (Kd.R_new' (Kd.R_new' (Kd.R_new' ho0 (Kd.R_lt zz30)) (Kd.R_lt zz50)) (Kd.R_lt zz32)) (below_size zz14)) (blk_below (g := gb101) (o := .cells #[.int .i64 a0_0, .slice A0_1 l0_1.length c0_1] 24 (0, 0)) zz1 hb) (blk_below (g := gb118) (o := .cells #[.int .i64 t114, .slice Ao32 t115.length co32] 31 (0, 0)) zz37 hb) (below_step zz14 hb); clear HO106 HO109 HO112 HO117 HO121 BK101 BK118 HB; obtain ⟨HO106, HO109, HO112, HO117, HO121, HO124, BK101, BK118, HB⟩ := n_; clear ho0 hb))); (try simp only [Act.put, List.setIfInBounds_toArray, List.set_cons_zero, List.set_cons_succ]); go_cut [55] (fun v55 wc => ∃ (kq : Nat) (x55_16 : Bool), v55 = .bool x55_16 ∧ Aside0 (laws_FnExactTimesClass.j0 kq l1 a2 t110 t113 t119 t122 t125 x55_16 a0_0 l0_1 t114 t115 = some r) ∧ Aside0 (kq ≤ k) ∧ Aside0 (Kd.R (Kd.int .i64) 3 wc w.heap.size (fun k_ => some k_ ≠ ((.slice Ao35 t119.length co35) : Value).ownBlock ∧ some k_ ≠ (v123 : Value).ownBlock) v111 t110) ∧ Aside0 (Kd.R (Kd.int .i64) 3 wc w.heap.size (fun k_ => some k_ ≠ (v111 : Value).ownBlock ∧ some k_ ≠ (v123 : Value).ownBlock) (.slice Ao35 t119.length co35) t119) ∧ Aside0 (Kd.R (Kd.int .i64) 3 wc w.heap.size (fun k_ => some k_ ≠ (v111 : Value).ownBlock ∧ some k_ ≠ ((.slice Ao35 t119.length co35) : Value).ownBlock) v123 t122) ∧ Aside0 (Kd.R k54 54 wc w.heap.size (fun _ => True) (.slice Ao32 t115.length co32) t115) ∧ Aside0 (wc.heap[gb101]? = some (.cells #[.int .i64 a0_0, (.slice A0_1 l0_1.length c0_1)] 24 (0, 0))) ∧ Aside0 (wc.heap[gb118]? = some (.cells #[.int .i64 t114, (.slice Ao32 t115.length co32)] 31 (0, 0))) ∧ Aside0 (Below w.heap.size w wc))
 case first =>
  have H := HC17.out; clear HC17; replace H := Option.bind_eq_some_iff.mp H; obtain ⟨t126, A370, H⟩ := H; (try dsimp only at H); have A37 := Aside0.mk A370; clear A370; by_cases c38 : t126 = true
  ·subst c38; rw [if_pos rfl] at H; have H' := Aside0.mk H; clear H; obtain ⟨Ao39, co39, eo39⟩ := Kd.R_slice HO124.out; subst eo39; obtain ⟨Ao40, co40, eo40⟩ := Kd.R_slice HO112.out; subst eo40; (go_wp2_with (first | ((with_reducible refine gate_callee (f := 12) rfl ?_); refine goesL_ (some 49) rfl rfl Try.func12 (by kernel_rfl) rfl #[.slice Ao39 t122.length co39, .slice Ao40 t110.length co40] rfl zz3 ?_; (with_reducible refine (laws_eqIntS.calls k _ _ t122 _ _ t110 true _ ?side1 ?side2 ?side3 ?side4 A37.out).mono ?_); (case side1 => repeat (first | exact (Kd.R_reads' HO124.out).2.2 | (with_reducible refine Kd.C_alloc ?_ _) | (with_reducible refine Kd.C_drewN ?_ _) | (with_reducible refine Kd.C_drew ?_))); (case side2 => exact (Kd.R_reads' HO124.out).2.1); (case side3 => repeat (first | exact (Kd.R_reads' HO112.out).2.2 | (with_reducible refine Kd.C_alloc ?_ _) | (with_reducible refine Kd.C_drewN ?_ _) | (with_reducible refine Kd.C_drew ?_))); (case side4 => exact (Kd.R_reads' HO112.out).2.1); rintro e w' ⟨rfl, ⟨nd, rfl⟩⟩; refine ⟨_, rfl, ?_⟩))); (go_meet); case rel => exact ⟨_, ((t125 != t113)), zz6, H', ⟨by first | omega | exact Nat.le_refl _⟩, ⟨by (with_reducible repeat (first | apply Kd.R_alloc | apply Kd.R_drewN | apply Kd.R_drew)); exact Kd.R_mono HO112.out (fun _ hk => ⟨hk.1.2, hk.2⟩)⟩, ⟨by (with_reducible repeat (first | apply Kd.R_alloc | apply Kd.R_drewN | apply Kd.R_drew)); exact Kd.R_mono HO121.out (fun _ hk => ⟨hk.1.2, hk.2⟩)⟩, ⟨by (with_reducible repeat (first | apply Kd.R_alloc | apply Kd.R_drewN | apply Kd.R_drew)); exact Kd.R_mono HO124.out (fun _ hk => ⟨hk.1.2, hk.2⟩)⟩, ⟨by (with_reducible repeat (first | apply Kd.R_alloc | apply Kd.R_drewN | apply Kd.R_drew)); exact Kd.R_mono HO117.out (fun _ hk => trivial)⟩, ⟨zz1⟩, ⟨zz37⟩, ⟨zz14⟩⟩
  replace c38 := Bool.eq_false_iff.mpr c38; subst c38; rw [if_neg (show ¬ (false = true) by decide)] at H; have H' := Aside0.mk H; clear H; obtain ⟨Ao41, co41, eo41⟩ := Kd.R_slice HO124.out; subst eo41; obtain ⟨Ao42, co42, eo42⟩ := Kd.R_slice HO112.out; subst eo42; (go_wp2_with (first | ((with_reducible refine gate_callee (f := 12) rfl ?_); refine goesL_ (some 49) rfl rfl Try.func12 (by kernel_rfl) rfl #[.slice Ao41 t122.length co41, .slice Ao42 t110.length co42] rfl zz3 ?_; (with_reducible refine (laws_eqIntS.calls k _ _ t122 _ _ t110 false _ ?side1 ?side2 ?side3 ?side4 A37.out).mono ?_); (case side1 => repeat (first | exact (Kd.R_reads' HO124.out).2.2 | (with_reducible refine Kd.C_alloc ?_ _) | (with_reducible refine Kd.C_drewN ?_ _) | (with_reducible refine Kd.C_drew ?_))); (case side2 => exact (Kd.R_reads' HO124.out).2.1); (case side3 => repeat (first | exact (Kd.R_reads' HO112.out).2.2 | (with_reducible refine Kd.C_alloc ?_ _) | (with_reducible refine Kd.C_drewN ?_ _) | (with_reducible refine Kd.C_drew ?_))); (case side4 => exact (Kd.R_reads' HO112.out).2.1); rintro e w' ⟨rfl, ⟨nd, rfl⟩⟩; refine ⟨_, rfl, ?_⟩))); (go_meet); case rel => exact ⟨_, (true), zz6, H', ⟨by first | omega | exact Nat.le_refl _⟩, ⟨by (with_reducible repeat (first | apply Kd.R_alloc | apply Kd.R_drewN | apply Kd.R_drew)); exact Kd.R_mono HO112.out (fun _ hk => ⟨hk.1.2, hk.2⟩)⟩, ⟨by (with_reducible repeat (first | apply Kd.R_alloc | apply Kd.R_drewN | apply Kd.R_drew)); exact Kd.R_mono HO121.out (fun _ hk => ⟨hk.1.2, hk.2⟩)⟩, ⟨by (with_reducible repeat (first | apply Kd.R_alloc | apply Kd.R_drewN | apply Kd.R_drew)); exact Kd.R_mono HO124.out (fun _ hk => ⟨hk.1.2, hk.2⟩)⟩, ⟨by (with_reducible repeat (first | apply Kd.R_alloc | apply Kd.R_drewN | apply Kd.R_drew)); exact Kd.R_mono HO117.out (fun _ hk => trivial)⟩, ⟨zz1⟩, ⟨zz37⟩, ⟨zz14⟩⟩
 case rest =>
  clear HC17; (try clear c1); (try clear p2); (try clear c3); (try clear c4); (try clear c4b0); (try clear c4b1); (try clear c7); (try clear c7b0); (try clear c9); (try clear c10); (try clear c12); (try clear c17); (try clear c18); (try clear c30); (try clear c38); (try clear hcz19_0); (try clear hcz19_1); (try clear hcz21_0); (try clear hcz21_1); (try clear hcz27_0); (try clear hcz27_1); (try clear hcz31_0); (try clear hcz31_1); (try clear hcz34_0); (try clear hcz34_1); (try clear hcz9_0); (try clear hcz9_1); (try clear hfz19_0); (try clear hfz19_1); (try clear hfz21_0); (try clear hfz21_1); (try clear hfz27_0); (try clear hfz27_1); (try clear hfz31_0); (try clear hfz31_1); (try clear hfz34_0); (try clear hfz34_1); (try clear hfz9_0); (try clear hfz9_1); obtain ⟨kq, x55_16, rfl, HA, HJ16, HO_8, HO_11, HO_12, HO_119001, BK101, BK118, HB⟩ := hcut
  cases kq with
  | zero => exact absurd HA.out (by simp [laws_FnExactTimesClass.j0])
  | succ kj16 =>
   have H := HA.out; clear HA; simp only [laws_FnExactTimesClass.j0] at H; by_cases c43 : x55_16 = true
   ·subst c43; rw [if_pos rfl] at H; exact absurd H (by simp)
   replace c43 := Bool.eq_false_iff.mpr c43; subst c43; rw [if_neg (show ¬ (false = true) by decide)] at H; replace H := Option.bind_eq_some_iff.mp H; obtain ⟨⟨t127, t128⟩, A440, H⟩ := H; dsimp only at H; have A44 := Aside0.mk A440; clear A440; replace H := Option.bind_eq_some_iff.mp H; obtain ⟨t131, A450, H⟩ := H; (try dsimp only at H); have A45 := Aside0.mk A450; clear A450; by_cases c46 : t131 = true; rotate_left
   ·replace c46 := Bool.eq_false_iff.mpr c46; subst c46; rw [if_neg (show ¬ (false = true) by decide)] at H; exact absurd H (by simp)
   subst c46; rw [if_pos rfl] at H; replace H := Option.bind_eq_some_iff.mp H; obtain ⟨t132, A470, H⟩ := H; (try dsimp only at H); have A47 := Aside0.mk A470; clear A470; replace H := Option.bind_eq_some_iff.mp H; obtain ⟨t135, A480, H⟩ := H; (try dsimp only at H); have A48 := Aside0.mk A480; clear A480; by_cases c49 : t135 = true; rotate_left
   ·replace c49 := Bool.eq_false_iff.mpr c49; subst c49; rw [if_neg (show ¬ (false = true) by decide)] at H; exact absurd H (by simp)
   subst c49; rw [if_pos rfl] at H; replace H := Option.bind_eq_some_iff.mp H; obtain ⟨⟨t136, t137⟩, A500, H⟩ := H; dsimp only at H; have A50 := Aside0.mk A500; clear A500; replace H := Option.bind_eq_some_iff.mp H; obtain ⟨⟨t138, t139⟩, A510, H⟩ := H; dsimp only at H; have A51 := Aside0.mk A510; clear A510; have HC52 := Aside0.mk H; clear H; (try go_wp2); have n_ := zA7 (Kd.R_drew HO_8.out) (Kd.R_drew HO_11.out) (Kd.R_drew HO_12.out) (Kd.R_drew HO_119001.out) (blk_drew BK101.out) (blk_drew BK118.out) (below_drew1 HB.out); clear HO_8 HO_11 HO_12 HO_119001 BK101 BK118 HB; obtain ⟨HO_8, HO_11, HO_12, HO_119001, BK101, BK118, HB⟩ := n_; refine start_ (n := 5) (S := fun w' => w'.cell? ⟨gb118, 0, none⟩ = some (.int .i64 t114) ∧ w'.cell? ⟨gb118, 1, none⟩ = some (.slice Ao32 t115.length co32) ∧ w'.cell? ⟨gb101, 0, none⟩ = some (.int .i64 a0_0) ∧ w'.cell? ⟨gb101, 1, none⟩ = some (.slice A0_1 l0_1.length c0_1)) (ds := []) (zM 5 0) (by kernel_rfl) rfl rfl ⟨(blk_cell BK118.out 0).trans rfl, (blk_cell BK118.out 1).trans rfl, (blk_cell BK101.out 0).trans rfl, (blk_cell BK101.out 1).trans rfl⟩ (fun hHeld => ?_); generalize wc.drew = w53 at HO_8 HO_11 HO_12 HO_119001 BK101 BK118 HB hHeld ⊢; refine take_ (i := 0) (N := some 56) (v := ?_) (a' := ?_) (zM 5 1) rfl rfl (by kernel_rfl) (fun _ _ _ h => h) (Or.inl ⟨by rfl, ?_⟩) hHeld ?_ ?_; rotate_left
   ·rintro w' ⟨s0, s1, s2, s3⟩; exact zzT
   rotate_left
   ·exact zzS
   refine take_ (i := 1) (N := some 57) (v := ?_) (a' := ?_) (zM 5 3) rfl rfl (by kernel_rfl) (fun _ _ _ h => h) (Or.inl ⟨by rfl, ?_⟩) hHeld ?_ ?_; rotate_left
   ·rintro w' ⟨s0, s1, s2, s3⟩; exact zzT
   rotate_left
   ·exact zzS
   refine one_ (i := 2) (N := some 58) (zM 5 7) rfl rfl (by kernel_rfl) (by decide) (fun K hK => ?_); refine goes_ Try.func9 (by kernel_rfl) rfl #[.agg #[.int .i64 a0_0, .slice A0_1 l0_1.length c0_1]] (by rfl) rfl rfl zz3 ?_; (with_reducible refine (laws_toGraph.calls kj16 a0_0 _ _ l0_1 t127 t128 _ ?side1 ?side2 A44.out).mono ?_); (case side1 => exact zz5); (case side2 => exact HC0_1.out); rintro e w54 ⟨v129, rfl, ho0, hb⟩; refine ⟨_, rfl, ?_⟩; have n_ := zA8 (Kd.R_below zz8 hb) (Kd.R_below zz49 hb) (Kd.R_below zz41 hb) (Kd.R_elder' zz47 (Kd.R_base ho0) hb) (Kd.R_lower (Kd.R_new' ho0 (Kd.R_lt zz47)) (below_size zz14)) (blk_below (g := gb101) (o := .cells #[.int .i64 a0_0, .slice A0_1 l0_1.length c0_1] 24 (0, 0)) zz1 hb) (blk_below (g := gb118) (o := .cells #[.int .i64 t114, .slice Ao32 t115.length co32] 31 (0, 0)) zz37 hb) (below_step zz14 hb); clear HO_8 HO_11 HO_12 HO_119001 BK101 BK118 HB; obtain ⟨HO_8, HO_11, HO_12, HO_119001, HO130, BK101, BK118, HB⟩ := n_; clear ho0 hb; obtain ⟨Ao55, co55, eo55⟩ := Kd.R_slice HO130.out; (first | subst eo55 | (injection eo55 with f1_ f2_ f3_; have f4_ := f1_.symm; have f5_ := f3_.symm; clear f1_ f2_ f3_; subst f4_; subst f5_)); refine hK.out _ _ ⟨(blk_cell BK118.out 0).trans rfl, (blk_cell BK118.out 1).trans rfl, (blk_cell BK101.out 0).trans rfl, (blk_cell BK101.out 1).trans rfl⟩ (fun hHeld => ?_); clear hK K; refine norm_ (a' := ?_) ?_ ?_; rotate_left
   ·show Act.put _ (some 58) _ = _; exact zzS
   refine one_ (i := 3) (N := some 59) (zM 5 15) rfl rfl (by kernel_rfl) (by decide) (fun K hK => ?_); refine goes_ Try.func13 (by kernel_rfl) rfl #[.agg #[.int .i64 t114, .slice Ao32 t115.length co32], .agg #[.int .i64 t127, .slice Ao55 t128.length co55]] (by rfl) rfl rfl zz3 ?_; (with_reducible refine (laws_eqGraph.calls kj16 t114 _ _ t115 t127 _ _ t128 true _ ?side1 ?side2 ?side3 ?side4 A45.out).mono ?_); (case side1 => repeat (first | exact (Kd.R_reads' HO_119001.out).2.2 | (with_reducible refine Kd.C_alloc ?_ _) | (with_reducible refine Kd.C_drewN ?_ _) | (with_reducible refine Kd.C_drew ?_))); (case side2 => exact (Kd.R_reads' HO_119001.out).2.1); (case side3 => repeat (first | exact (Kd.R_reads' HO130.out).2.2 | (with_reducible refine Kd.C_alloc ?_ _) | (with_reducible refine Kd.C_drewN ?_ _) | (with_reducible refine Kd.C_drew ?_))); (case side4 => exact (Kd.R_reads' HO130.out).2.1); rintro e w56 ⟨rfl, hb⟩; refine ⟨_, rfl, ?_⟩; have n_ := zA8 (Kd.R_below zz8 hb) (Kd.R_below zz49 hb) (Kd.R_below zz41 hb) (Kd.R_below zz47 hb) (Kd.R_below (by (with_reducible repeat (first | apply Kd.R_alloc | apply Kd.R_drewN | apply Kd.R_drew)); exact HO130.out) hb) (blk_below (g := gb101) (o := .cells #[.int .i64 a0_0, .slice A0_1 l0_1.length c0_1] 24 (0, 0)) zz1 hb) (blk_below (g := gb118) (o := .cells #[.int .i64 t114, .slice Ao32 t115.length co32] 31 (0, 0)) zz37 hb) (below_step zz14 hb); clear HO_8 HO_11 HO_12 HO_119001 HO130 BK101 BK118 HB; obtain ⟨HO_8, HO_11, HO_12, HO_119001, HO130, BK101, BK118, HB⟩ := n_; clear hb; refine hK.out _ _ ⟨(blk_cell BK118.out 0).trans rfl, (blk_cell BK118.out 1).trans rfl, (blk_cell BK101.out 0).trans rfl, (blk_cell BK101.out 1).trans rfl⟩ (fun hHeld => ?_); clear hK K; refine norm_ (a' := ?_) ?_ ?_; rotate_left
   ·show Act.put _ (some 59) _ = _; exact zzS
   refine pure_ (i := 4) (N := some 60) (v := ?_) (a' := ?_) (zM 5 31) rfl rfl (by kernel_rfl) (fun _ _ _ h => h) (Or.inl ⟨by rfl, ?_⟩) ?_ ?_; rotate_left
   ·intro w'; exact zzT
   rotate_left
   ·exact zzS
   refine done_ (by kernel_rfl) ?_; (go_upto_region 20 with (first | ((with_reducible refine gate_callee (f := 10) rfl ?_); refine goesL_ (some 63) rfl rfl Try.func10 (by kernel_rfl) rfl #[.slice A1 l1.length c1] rfl zz3 ?_; (with_reducible refine (laws_toIntS.calls kj16 _ _ l1 t132 _ ?side1 ?side2 A47.out).mono ?_); (case side1 => exact zz11); (case side2 => exact HC1.out); rintro e w57 ⟨v133, rfl, ho0, hb⟩; refine ⟨_, rfl, ?_⟩; have n_ := zA9 (Kd.R_elder' zz8 (Kd.R_base ho0) hb) (Kd.R_elder' zz49 (Kd.R_base ho0) hb) (Kd.R_elder' zz41 (Kd.R_base ho0) hb) (Kd.R_below zz47 hb) (Kd.R_below (by (with_reducible repeat (first | apply Kd.R_alloc | apply Kd.R_drewN | apply Kd.R_drew)); exact HO130.out) hb) (Kd.R_lower (Kd.R_new' (Kd.R_new' (Kd.R_new' ho0 (Kd.R_lt zz8)) (Kd.R_lt zz49)) (Kd.R_lt zz41)) (below_size zz14)) (blk_below (g := gb101) (o := .cells #[.int .i64 a0_0, .slice A0_1 l0_1.length c0_1] 24 (0, 0)) zz1 hb) (blk_below (g := gb118) (o := .cells #[.int .i64 t114, .slice Ao32 t115.length co32] 31 (0, 0)) zz37 hb) (below_step zz14 hb); clear HO_8 HO_11 HO_12 HO_119001 HO130 BK101 BK118 HB; obtain ⟨HO_8, HO_11, HO_12, HO_119001, HO130, HO134, BK101, BK118, HB⟩ := n_; clear ho0 hb; obtain ⟨Ao58, co58, eo58⟩ := Kd.R_slice HO134.out; subst eo58) | ((with_reducible refine gate_callee (f := 12) rfl ?_); refine goesL_ (some 64) rfl rfl Try.func12 (by kernel_rfl) rfl #[.slice Ao35 t119.length co35, .slice Ao58 t132.length co58] rfl zz3 ?_; (with_reducible refine (laws_eqIntS.calls kj16 _ _ t119 _ _ t132 true _ ?side1 ?side2 ?side3 ?side4 A48.out).mono ?_); (case side1 => repeat (first | exact (Kd.R_reads' HO_11.out).2.2 | (with_reducible refine Kd.C_alloc ?_ _) | (with_reducible refine Kd.C_drewN ?_ _) | (with_reducible refine Kd.C_drew ?_))); (case side2 => exact (Kd.R_reads' HO_11.out).2.1); (case side3 => repeat (first | exact (Kd.R_reads' HO134.out).2.2 | (with_reducible refine Kd.C_alloc ?_ _) | (with_reducible refine Kd.C_drewN ?_ _) | (with_reducible refine Kd.C_drew ?_))); (case side4 => exact (Kd.R_reads' HO134.out).2.1); rintro e w' ⟨rfl, ⟨nd, rfl⟩⟩; refine ⟨_, rfl, ?_⟩; have hnb59 := NB118_101.out; have hnc59 := NB101_118.out; have hcz60_0 := zC20 BK118; have hcz60_1 := zC21 BK118; have hfz60_0 := blk_frozen BK118.out 0; have hfz60_1 := blk_frozen BK118.out 1) | ((with_reducible refine gate_callee (f := 14) rfl ?_); refine goesL_ (some 68) rfl rfl Try.func14 (by kernel_rfl) rfl #[.agg #[.int .i64 t114, .slice Ao32 t115.length co32], .int .i64 1] rfl zz3 ?_; (with_reducible refine (laws_markGraph.calls kj16 t114 (fun k_ => some k_ = (.slice Ao32 t115.length co32 : Value).ownBlock) (.slice Ao32 t115.length co32) t115 1 t136 t137 w _ ?side1 ?side2 A50.out).mono ?_); (case side1 => exact zz14); (case side2 => exact Kd.R_tight rfl HO_119001.out); rintro e w61 ⟨rfl, hy0, hb, hkp⟩; refine ⟨_, rfl, ?_⟩; have n_ := zA9 (Kd.R_mono (ok' := fun k_ => some k_ ≠ (.slice Ao35 t119.length co35 : Value).ownBlock ∧ some k_ ≠ (v123 : Value).ownBlock ∧ some k_ ≠ (.slice Ao58 t132.length co58 : Value).ownBlock) (Kd.R_keptB ((Kd.R_apart' HO_8.out (Kd.R_typed HO_119001.out) (by decide))) hkp (fun k_ hk_ hs_ => (hk_.2) hs_)) (fun k_ hk_ => ⟨hk_.1.1.1.1, hk_.1.1.1.2, hk_.1.1.2⟩)) (Kd.R_mono (ok' := fun k_ => some k_ ≠ (v111 : Value).ownBlock ∧ some k_ ≠ (v123 : Value).ownBlock ∧ some k_ ≠ (.slice Ao58 t132.length co58 : Value).ownBlock) (Kd.R_keptB ((Kd.R_apart' HO_11.out (Kd.R_typed HO_119001.out) (by decide))) hkp (fun k_ hk_ hs_ => (hk_.2) hs_)) (fun k_ hk_ => ⟨hk_.1.1.1.1, hk_.1.1.1.2, hk_.1.1.2⟩)) (Kd.R_mono (ok' := fun k_ => some k_ ≠ (v111 : Value).ownBlock ∧ some k_ ≠ (.slice Ao35 t119.length co35 : Value).ownBlock ∧ some k_ ≠ (.slice Ao58 t132.length co58 : Value).ownBlock) (Kd.R_keptB ((Kd.R_apart' HO_12.out (Kd.R_typed HO_119001.out) (by decide))) hkp (fun k_ hk_ hs_ => (hk_.2) hs_)) (fun k_ hk_ => ⟨hk_.1.1.1.1, hk_.1.1.1.2, hk_.1.1.2⟩)) (Kd.R_reok rfl hy0 (fun k_ e_ => HO_119001.out.1 k_ e_)) (blk_kept zz1 hkp (fun hs_ => (fun e_ => (Kd.R_ne HO_119001.out BK101.out (by decide)) e_) hs_)) (blk_kept zz37 hkp (fun hs_ => (fun e_ => (Kd.R_ne HO_119001.out BK118.out (by decide)) e_) hs_)) (Kd.R_mono (ok' := fun k_ => some k_ ≠ (.slice Ao32 t115.length co32 : Value).ownBlock) (Kd.R_keptB (HO130.out) hkp (fun k_ hk_ hs_ => (hk_.2) hs_)) (fun k_ hk_ => hk_.1.2)) (Kd.R_mono (ok' := fun k_ => some k_ ≠ (v111 : Value).ownBlock ∧ some k_ ≠ (.slice Ao35 t119.length co35 : Value).ownBlock ∧ some k_ ≠ (v123 : Value).ownBlock) (Kd.R_keptB ((Kd.R_apart' HO134.out (Kd.R_typed HO_119001.out) (by decide))) hkp (fun k_ hk_ hs_ => (hk_.2) hs_)) (fun k_ hk_ => ⟨hk_.1.1.1.1.2, hk_.1.1.1.2, hk_.1.1.2⟩)) hb; clear HO_8 HO_11 HO_12 HO_119001 BK101 BK118 HO130 HO134 HB; obtain ⟨HO_8, HO_11, HO_12, HO_119001, BK101, BK118, HO130, HO134, HB⟩ := n_; clear hy0 hb hkp) | ((with_reducible refine gate_callee (f := 15) rfl ?_); refine goesL_ (some 71) rfl rfl Try.func15 (by kernel_rfl) rfl #[.slice Ao35 t119.length co35, .int .i64 t136] rfl zz3 ?_; (with_reducible refine (laws_markIntS.calls kj16 (fun k_ => some k_ = (.slice Ao35 t119.length co35 : Value).ownBlock) (.slice Ao35 t119.length co35) t119 t136 t138 t139 w _ ?side1 ?side2 A51.out).mono ?_); (case side1 => exact zz14); (case side2 => exact Kd.R_tight rfl HO_11.out); rintro e w62 ⟨rfl, hy0, hb, hkp⟩; refine ⟨_, rfl, ?_⟩; have n_ := zA9 (Kd.R_mono (ok' := fun k_ => some k_ ≠ (.slice Ao35 t119.length co35 : Value).ownBlock ∧ some k_ ≠ (v123 : Value).ownBlock ∧ some k_ ≠ (.slice Ao58 t132.length co58 : Value).ownBlock) (Kd.R_keptB (HO_8.out) hkp (fun k_ hk_ hs_ => (hk_.1) hs_)) (fun k_ hk_ => ⟨hk_.1.1, hk_.1.2.1, hk_.1.2.2⟩)) (Kd.R_reok rfl hy0 (fun k_ e_ => HO_11.out.1 k_ e_)) (Kd.R_mono (ok' := fun k_ => some k_ ≠ (v111 : Value).ownBlock ∧ some k_ ≠ (.slice Ao35 t119.length co35 : Value).ownBlock ∧ some k_ ≠ (.slice Ao58 t132.length co58 : Value).ownBlock) (Kd.R_keptB (HO_12.out) hkp (fun k_ hk_ hs_ => (hk_.2.1) hs_)) (fun k_ hk_ => ⟨hk_.1.1, hk_.1.2.1, hk_.1.2.2⟩)) (Kd.R_mono (ok' := fun k_ => some k_ ≠ (.slice Ao55 t128.length co55 : Value).ownBlock) (Kd.R_keptB ((Kd.R_apart' HO_119001.out (Kd.R_typed HO_11.out) (by decide))) hkp (fun k_ hk_ hs_ => (hk_.2) hs_)) (fun k_ hk_ => hk_.1.1.2)) (blk_kept zz1 hkp (fun hs_ => (fun e_ => (Kd.R_ne HO_11.out BK101.out (by decide)) e_) hs_)) (blk_kept zz37 hkp (fun hs_ => (fun e_ => (Kd.R_ne HO_11.out BK118.out (by decide)) e_) hs_)) (Kd.R_mono (ok' := fun k_ => some k_ ≠ (.slice Ao32 t115.length co32 : Value).ownBlock) (Kd.R_keptB ((Kd.R_apart' HO130.out (Kd.R_typed HO_11.out) (by decide))) hkp (fun k_ hk_ hs_ => (hk_.2) hs_)) (fun k_ hk_ => hk_.1.1)) (Kd.R_mono (ok' := fun k_ => some k_ ≠ (v111 : Value).ownBlock ∧ some k_ ≠ (.slice Ao35 t119.length co35 : Value).ownBlock ∧ some k_ ≠ (v123 : Value).ownBlock) (Kd.R_keptB (HO134.out) hkp (fun k_ hk_ hs_ => (hk_.2.1) hs_)) (fun k_ hk_ => ⟨hk_.1.1, hk_.1.2.1, hk_.1.2.2⟩)) hb; clear HO_8 HO_11 HO_12 HO_119001 BK101 BK118 HO130 HO134 HB; obtain ⟨HO_8, HO_11, HO_12, HO_119001, BK101, BK118, HO130, HO134, HB⟩ := n_; clear hy0 hb hkp))); (try simp only [Act.put, List.setIfInBounds_toArray, List.set_cons_zero, List.set_cons_succ]); go_cut [84] (fun v84 wc => ∃ (kq : Nat) (x84_51 : Bool), v84 = .bool x84_51 ∧ Aside0 (laws_FnExactTimesClass.j1 kq l1 a2 t110 t113 t122 x84_51 a0_0 l0_1 = some r) ∧ Aside0 (kq ≤ kj16) ∧ Aside0 (Kd.R (Kd.int .i64) 3 wc w.heap.size (fun k_ => some k_ ≠ (v123 : Value).ownBlock) v111 t110) ∧ Aside0 (Kd.R (Kd.int .i64) 3 wc w.heap.size (fun k_ => some k_ ≠ (v111 : Value).ownBlock) v123 t122) ∧ Aside0 (Kd.R k54 54 wc w.heap.size (fun _ => True) (.slice Ao32 t115.length co32) t137) ∧ Aside0 (wc.heap[gb101]? = some (.cells #[.int .i64 a0_0, (.slice A0_1 l0_1.length c0_1)] 24 (0, 0))) ∧ Aside0 (wc.heap[gb118]? = some (.cells #[.int .i64 t114, (.slice Ao32 t115.length co32)] 31 (0, 0))) ∧ Aside0 (Below w.heap.size w wc))
   case first =>
    have H := HC52.out; clear HC52; by_cases c63 : t138 < 0
    ·rw [if_pos c63] at H; have c63b0 := decide_eq_true c63; clear c63; (first | rw [c63b0] | (simp only [i64_w, i32_w]; rw [c63b0]) | skip); have H' := Aside0.mk H; clear H; go_wp2; (go_meet); case rel => exact ⟨_, (true), zz6, H', ⟨by have := HJ16.out; first | omega | exact Nat.le_refl _⟩, ⟨by (with_reducible repeat (first | apply Kd.R_alloc | apply Kd.R_drewN | apply Kd.R_drew)); exact Kd.R_mono HO_8.out (fun _ hk => hk.2.1)⟩, ⟨by (with_reducible repeat (first | apply Kd.R_alloc | apply Kd.R_drewN | apply Kd.R_drew)); exact Kd.R_mono HO_12.out (fun _ hk => hk.1)⟩, ⟨by (with_reducible repeat (first | apply Kd.R_alloc | apply Kd.R_drewN | apply Kd.R_drew)); exact Kd.R_mono HO_119001.out (fun _ hk => trivial)⟩, ⟨zz1⟩, ⟨zz37⟩, ⟨zz14⟩⟩
    rw [if_neg c63] at H; have c63b0 := decide_eq_false c63; clear c63; (first | rw [c63b0] | (simp only [i64_w, i32_w]; rw [c63b0]) | skip); replace H := Option.bind_eq_some_iff.mp H; obtain ⟨t140, A640, H⟩ := H; (try dsimp only at H); have A64 := Aside0.mk A640; clear A640; by_cases c65 : t140 = true
    ·subst c65; rw [if_pos rfl] at H; have H' := Aside0.mk H; clear H; obtain ⟨Ao66, co66, eo66⟩ := Kd.R_slice HO_12.out; subst eo66; obtain ⟨Ao67, co67, eo67⟩ := Kd.R_slice HO_8.out; subst eo67; (go_wp2_with (first | (go_at_call 12; (with_reducible refine (laws_eqIntS.calls kj16 _ _ t122 _ _ t110 true _ ?side1 ?side2 ?side3 ?side4 A64.out).mono ?_); (case side1 => exact zz61); (case side2 => exact (Kd.R_reads' HO_12.out).2.1); (case side3 => exact zz21); (case side4 => exact (Kd.R_reads' HO_8.out).2.1); rintro e w' ⟨rfl, ⟨nd, rfl⟩⟩))); (go_meet); case rel => exact ⟨_, ((t125 != t113)), zz6, H', ⟨by have := HJ16.out; first | omega | exact Nat.le_refl _⟩, ⟨by (with_reducible repeat (first | apply Kd.R_alloc | apply Kd.R_drewN | apply Kd.R_drew)); exact Kd.R_mono HO_8.out (fun _ hk => hk.2.1)⟩, ⟨by (with_reducible repeat (first | apply Kd.R_alloc | apply Kd.R_drewN | apply Kd.R_drew)); exact Kd.R_mono HO_12.out (fun _ hk => hk.1)⟩, ⟨by (with_reducible repeat (first | apply Kd.R_alloc | apply Kd.R_drewN | apply Kd.R_drew)); exact Kd.R_mono HO_119001.out (fun _ hk => trivial)⟩, ⟨zz1⟩, ⟨zz37⟩, ⟨zz14⟩⟩
    replace c65 := Bool.eq_false_iff.mpr c65; subst c65; rw [if_neg (show ¬ (false = true) by decide)] at H; have H' := Aside0.mk H; clear H; obtain ⟨Ao68, co68, eo68⟩ := Kd.R_slice HO_12.out; subst eo68; obtain ⟨Ao69, co69, eo69⟩ := Kd.R_slice HO_8.out; subst eo69; (go_wp2_with (first | (go_at_call 12; (with_reducible refine (laws_eqIntS.calls kj16 _ _ t122 _ _ t110 false _ ?side1 ?side2 ?side3 ?side4 A64.out).mono ?_); (case side1 => exact zz61); (case side2 => exact (Kd.R_reads' HO_12.out).2.1); (case side3 => exact zz21); (case side4 => exact (Kd.R_reads' HO_8.out).2.1); rintro e w' ⟨rfl, ⟨nd, rfl⟩⟩))); (go_meet); case rel => exact ⟨_, (true), zz6, H', ⟨by have := HJ16.out; first | omega | exact Nat.le_refl _⟩, ⟨by (with_reducible repeat (first | apply Kd.R_alloc | apply Kd.R_drewN | apply Kd.R_drew)); exact Kd.R_mono HO_8.out (fun _ hk => hk.2.1)⟩, ⟨by (with_reducible repeat (first | apply Kd.R_alloc | apply Kd.R_drewN | apply Kd.R_drew)); exact Kd.R_mono HO_12.out (fun _ hk => hk.1)⟩, ⟨by (with_reducible repeat (first | apply Kd.R_alloc | apply Kd.R_drewN | apply Kd.R_drew)); exact Kd.R_mono HO_119001.out (fun _ hk => trivial)⟩, ⟨zz1⟩, ⟨zz37⟩, ⟨zz14⟩⟩
   case rest =>
    clear HC52; (try clear c1); (try clear p2); (try clear c3); (try clear c4); (try clear c4b0); (try clear c4b1); (try clear c5); (try clear c6); (try clear c7); (try clear c7b0); (try clear c9); (try clear c10); (try clear c12); (try clear c13); (try clear c14); (try clear c15); (try clear c17); (try clear c18); (try clear c30); (try clear c38); (try clear c43); (try clear c46); (try clear c49); (try clear c59); (try clear c63); (try clear c63b0); (try clear c65); (try clear hcz19_0); (try clear hcz19_1); (try clear hcz21_0); (try clear hcz21_1); (try clear hcz27_0); (try clear hcz27_1); (try clear hcz31_0); (try clear hcz31_1); (try clear hcz34_0); (try clear hcz34_1); (try clear hcz60_0); (try clear hcz60_1); (try clear hcz9_0); (try clear hcz9_1); (try clear hfz19_0); (try clear hfz19_1); (try clear hfz21_0); (try clear hfz21_1); (try clear hfz27_0); (try clear hfz27_1); (try clear hfz31_0); (try clear hfz31_1); (try clear hfz34_0); (try clear hfz34_1); (try clear hfz60_0); (try clear hfz60_1); (try clear hfz9_0); (try clear hfz9_1); (try clear p2); obtain ⟨kq, x84_51, rfl, HA, HJ51, HO_8, HO_12, HO_119001, BK101, BK118, HB⟩ := hcut; have hl119001_51 := (Kd.R_reads' HO_119001.out).1; rw [hl119001_51] at HO_119001; (try simp only [hl119001_51]); (try simp only [hl119001_51] at BK101); (try simp only [hl119001_51] at BK118); (try simp only [hl119001_51] at HO_8); (try simp only [hl119001_51] at HO_12)
    cases kq with
    | zero => exact absurd HA.out (by simp [laws_FnExactTimesClass.j1])
    | succ kj51 =>
     have H := HA.out; clear HA; simp only [laws_FnExactTimesClass.j1] at H; by_cases c70 : x84_51 = true
     ·subst c70; rw [if_pos rfl] at H; exact absurd H (by simp)
     replace c70 := Bool.eq_false_iff.mpr c70; subst c70; rw [if_neg (show ¬ (false = true) by decide)] at H; replace H := Option.bind_eq_some_iff.mp H; obtain ⟨⟨t141, t142⟩, A710, H⟩ := H; dsimp only at H; have A71 := Aside0.mk A710; clear A710; replace H := Option.bind_eq_some_iff.mp H; obtain ⟨t143, A720, H⟩ := H; (try dsimp only at H); have A72 := Aside0.mk A720; clear A720; by_cases c73 : t143 < 0
     ·rw [if_pos c73] at H; exact absurd H (by simp)
     rw [if_neg c73] at H; have c73b0 := decide_eq_false c73; clear c73; by_cases c74 : t143 = t141; rotate_left
     ·rw [if_neg c74] at H; exact absurd H (by simp)
     rw [if_pos c74] at H; have c74b0 : (t143 == t141) = true := beq_iff_eq.mpr c74; have c74b1 : (t143 != t141) = false := bne_eq_false_iff_eq.mpr c74; clear c74; replace H := Option.bind_eq_some_iff.mp H; obtain ⟨⟨t144, t145⟩, A750, H⟩ := H; dsimp only at H; have A75 := Aside0.mk A750; clear A750; replace H := Option.bind_eq_some_iff.mp H; obtain ⟨t148, A760, H⟩ := H; (try dsimp only at H); have A76 := Aside0.mk A760; clear A760; replace H := Option.bind_eq_some_iff.mp H; obtain ⟨⟨t151, t154⟩, A770, H⟩ := H; dsimp only at H; have A77 := Aside0.mk A770; clear A770; have HC78 := Aside0.mk H; clear H; obtain ⟨Ao79, co79, eo79⟩ := Kd.R_slice HO_12.out; subst eo79; (go_upto_region 31 with (first | ((with_reducible refine gate_callee (f := 15) rfl ?_); refine goesL_ (some 87) rfl rfl Try.func15 (by kernel_rfl) rfl #[.slice Ao79 t122.length co79, .int .i64 1] rfl zz3 ?_; (with_reducible refine (laws_markIntS.calls kj51 (fun k_ => some k_ = (.slice Ao79 t122.length co79 : Value).ownBlock) (.slice Ao79 t122.length co79) t122 1 t141 t142 w _ ?side1 ?side2 A71.out).mono ?_); (case side1 => exact zz14); (case side2 => exact Kd.R_tight rfl HO_12.out); rintro e w80 ⟨rfl, hy0, hb, hkp⟩; refine ⟨_, rfl, ?_⟩; have n_ := zA6 (Kd.R_mono (ok' := fun k_ => some k_ ≠ (.slice Ao79 t122.length co79 : Value).ownBlock) (Kd.R_keptB (HO_8.out) hkp (fun k_ hk_ hs_ => (hk_) hs_)) (fun k_ hk_ => hk_.1)) (Kd.R_reok rfl hy0 (fun k_ e_ => HO_12.out.1 k_ e_)) (Kd.R_mono (ok' := fun k_ => True) (Kd.R_keptB ((Kd.R_apart' HO_119001.out (Kd.R_typed HO_12.out) (by decide))) hkp (fun k_ hk_ hs_ => (hk_.2) hs_)) (fun k_ hk_ => trivial)) (blk_kept zz1 hkp (fun hs_ => (fun e_ => (Kd.R_ne HO_12.out BK101.out (by decide)) e_) hs_)) (blk_kept zz37 hkp (fun hs_ => (fun e_ => (Kd.R_ne HO_12.out BK118.out (by decide)) e_) hs_)) hb; clear HO_8 HO_12 HO_119001 BK101 BK118 HB; obtain ⟨HO_8, HO_12, HO_119001, BK101, BK118, HB⟩ := n_; clear hy0 hb hkp) | ((with_reducible refine gate_callee (f := 16) rfl ?_); refine goesL_ (some 90) rfl rfl Try.func16 (by kernel_rfl) rfl #[.slice Ao79 t142.length co79, .int .i64 1] rfl (by (try simp only [List.map_toArray, List.map_cons, List.map_nil]); first | done | (rw [show t142.length = t122.length from (Kd.R_reads' HO_12.out).1.symm] <;> rfl) | rfl | (simp only [List.length_drop, List.length_take]; rfl)) ?_; (with_reducible refine (laws_heldIntS.calls kj51 _ _ t142 1 t143 _ ?side1 ?side2 A72.out).mono ?_); (case side1 => exact zz61); (case side2 => rw [show t142.length = t122.length from (Kd.R_reads' HO_12.out).1.symm]; exact (Kd.R_reads' HO_12.out).2.1); rintro e w' ⟨rfl, ⟨nd, rfl⟩⟩; refine ⟨_, rfl, ?_⟩; have hnb81 := NB101_118.out; have hnc81 := NB118_101.out; have hcz82_0 := zC20 BK101; have hcz82_1 := zC21 BK101; have hfz82_0 := blk_frozen BK101.out 0; have hfz82_1 := blk_frozen BK101.out 1) | ((with_reducible refine gate_callee (f := 9) rfl ?_); refine goesL_ (some 98) rfl rfl Try.func9 (by kernel_rfl) rfl #[.agg #[.int .i64 a0_0, .slice A0_1 l0_1.length c0_1]] rfl zz3 ?_; (with_reducible refine (laws_toGraph.calls kj51 a0_0 _ _ l0_1 t144 t145 _ ?side1 ?side2 A75.out).mono ?_); (case side1 => repeat (first | exact (Kd.C_below HR0_1.out zz14) | (with_reducible refine Kd.C_alloc ?_ _) | (with_reducible refine Kd.C_drewN ?_ _) | (with_reducible refine Kd.C_drew ?_))); (case side2 => exact HC0_1.out); rintro e w83 ⟨v146, rfl, ho0, hb⟩; refine ⟨_, rfl, ?_⟩; have n_ := zA7 (Kd.R_below zz8 hb) (Kd.R_below zz41 hb) (Kd.R_elder' zz47 (Kd.R_base ho0) hb) (Kd.R_lower (Kd.R_new' ho0 (Kd.R_lt zz47)) (below_size zz14)) (blk_below (g := gb101) (o := .cells #[.int .i64 a0_0, .slice A0_1 l0_1.length c0_1] 24 (0, 0)) zz1 hb) (blk_below (g := gb118) (o := .cells #[.int .i64 t114, .slice Ao32 t137.length co32] 31 (0, 0)) zz37 hb) (below_step zz14 hb); clear HO_8 HO_12 HO_119001 BK101 BK118 HB; obtain ⟨HO_8, HO_12, HO_119001, HO147, BK101, BK118, HB⟩ := n_; clear ho0 hb) | ((with_reducible refine gate_callee (f := 10) rfl ?_); refine goesL_ (some 100) rfl rfl Try.func10 (by kernel_rfl) rfl #[.slice A1 l1.length c1] rfl zz3 ?_; (with_reducible refine (laws_toIntS.calls kj51 _ _ l1 t148 _ ?side1 ?side2 A76.out).mono ?_); (case side1 => exact zz11); (case side2 => exact HC1.out); rintro e w84 ⟨v149, rfl, ho0, hb⟩; refine ⟨_, rfl, ?_⟩; have n_ := zA8 (Kd.R_elder' zz8 (Kd.R_base ho0) hb) (Kd.R_elder' zz41 (Kd.R_base ho0) hb) (Kd.R_below zz47 hb) (Kd.R_below (by (with_reducible repeat (first | apply Kd.R_alloc | apply Kd.R_drewN | apply Kd.R_drew)); exact HO147.out) hb) (Kd.R_lower (Kd.R_new' (Kd.R_new' ho0 (Kd.R_lt zz8)) (Kd.R_lt zz41)) (below_size zz14)) (blk_below (g := gb101) (o := .cells #[.int .i64 a0_0, .slice A0_1 l0_1.length c0_1] 24 (0, 0)) zz1 hb) (blk_below (g := gb118) (o := .cells #[.int .i64 t114, .slice Ao32 t137.length co32] 31 (0, 0)) zz37 hb) (below_step zz14 hb); clear HO_8 HO_12 HO_119001 HO147 BK101 BK118 HB; obtain ⟨HO_8, HO_12, HO_119001, HO147, HO150, BK101, BK118, HB⟩ := n_; clear ho0 hb; obtain ⟨Ao85, co85, eo85⟩ := Kd.R_slice HO147.out; subst eo85; obtain ⟨Ao86, co86, eo86⟩ := Kd.R_slice HO150.out; subst eo86) | ((with_reducible refine gate_callee (f := 18) rfl ?_); refine goesL_ (some 102) rfl rfl Try.func18 (by kernel_rfl) rfl #[.agg #[.int .i64 t144, .slice Ao85 t145.length co85], .slice Ao86 t148.length co86, .int .i64 a2] rfl zz3 ?_; (with_reducible refine (impl_TimesClass.calls kj51 t144 _ _ t145 _ _ t148 a2 t151 t154 _ ?side1 ?side2 ?side3 ?side4 A77.out).mono ?_); (case side1 => repeat (first | exact (Kd.R_reads' HO147.out).2.2 | (with_reducible refine Kd.C_alloc ?_ _) | (with_reducible refine Kd.C_drewN ?_ _) | (with_reducible refine Kd.C_drew ?_))); (case side2 => exact (Kd.R_reads' HO147.out).2.1); (case side3 => repeat (first | exact (Kd.R_reads' HO150.out).2.2 | (with_reducible refine Kd.C_alloc ?_ _) | (with_reducible refine Kd.C_drewN ?_ _) | (with_reducible refine Kd.C_drew ?_))); (case side4 => exact (Kd.R_reads' HO150.out).2.1); rintro e w87 ⟨v152, rfl, ho0, hb⟩; refine ⟨_, rfl, ?_⟩; have n_ := zA9 (Kd.R_elder' zz8 (Kd.R_base ho0) hb) (Kd.R_elder' zz41 (Kd.R_base ho0) hb) (Kd.R_below zz47 hb) (Kd.R_below (by (with_reducible repeat (first | apply Kd.R_alloc | apply Kd.R_drewN | apply Kd.R_drew)); exact HO147.out) hb) (Kd.R_elder' (by (with_reducible repeat (first | apply Kd.R_alloc | apply Kd.R_drewN | apply Kd.R_drew)); exact HO150.out) (Kd.R_base ho0) hb) (Kd.R_lower (Kd.R_new' (Kd.R_new' (Kd.R_new' ho0 (Kd.R_lt zz8)) (Kd.R_lt zz41)) (Kd.R_lt (by (with_reducible repeat (first | apply Kd.R_alloc | apply Kd.R_drewN | apply Kd.R_drew)); exact HO150.out))) (below_size zz14)) (blk_below (g := gb101) (o := .cells #[.int .i64 a0_0, .slice A0_1 l0_1.length c0_1] 24 (0, 0)) zz1 hb) (blk_below (g := gb118) (o := .cells #[.int .i64 t114, .slice Ao32 t137.length co32] 31 (0, 0)) zz37 hb) (below_step zz14 hb); clear HO_8 HO_12 HO_119001 HO147 HO150 BK101 BK118 HB; obtain ⟨HO_8, HO_12, HO_119001, HO147, HO150, HO153, BK101, BK118, HB⟩ := n_; clear ho0 hb))); (try simp only [Act.put, List.setIfInBounds_toArray, List.set_cons_zero, List.set_cons_succ]); go_cut [113] (fun v113 wc => ∃ (kq : Nat) (x113_77 : Bool), v113 = .bool x113_77 ∧ Aside0 (laws_FnExactTimesClass.j2 kq t142 t141 x113_77 = some r) ∧ Aside0 (kq ≤ kj51) ∧ Aside0 (Kd.R (Kd.int .i64) 3 wc w.heap.size (fun _ => True) (.slice Ao79 t122.length co79) t142) ∧ Aside0 (Kd.R k54 54 wc w.heap.size (fun _ => True) (.slice Ao32 t137.length co32) t137) ∧ Aside0 (wc.heap[gb101]? = some (.cells #[.int .i64 a0_0, (.slice A0_1 l0_1.length c0_1)] 24 (0, 0))) ∧ Aside0 (wc.heap[gb118]? = some (.cells #[.int .i64 t114, (.slice Ao32 t137.length co32)] 31 (0, 0))) ∧ Aside0 (Below w.heap.size w wc))
     case first =>
      have H := HC78.out; clear HC78; replace H := Option.bind_eq_some_iff.mp H; obtain ⟨t155, A880, H⟩ := H; (try dsimp only at H); have A88 := Aside0.mk A880; clear A880; by_cases c89 : t155 = true
      ·subst c89; rw [if_pos rfl] at H; have H' := Aside0.mk H; clear H; obtain ⟨Ao90, co90, eo90⟩ := Kd.R_slice HO153.out; subst eo90; obtain ⟨Ao91, co91, eo91⟩ := Kd.R_slice HO_8.out; subst eo91; (go_wp2_with (first | ((with_reducible refine gate_callee (f := 12) rfl ?_); refine goesL_ (some 107) rfl rfl Try.func12 (by kernel_rfl) rfl #[.slice Ao90 t151.length co90, .slice Ao91 t110.length co91] rfl zz3 ?_; (with_reducible refine (laws_eqIntS.calls kj51 _ _ t151 _ _ t110 true _ ?side1 ?side2 ?side3 ?side4 A88.out).mono ?_); (case side1 => repeat (first | exact (Kd.R_reads' HO153.out).2.2 | (with_reducible refine Kd.C_alloc ?_ _) | (with_reducible refine Kd.C_drewN ?_ _) | (with_reducible refine Kd.C_drew ?_))); (case side2 => exact (Kd.R_reads' HO153.out).2.1); (case side3 => exact zz21); (case side4 => exact (Kd.R_reads' HO_8.out).2.1); rintro e w' ⟨rfl, ⟨nd, rfl⟩⟩; refine ⟨_, rfl, ?_⟩))); (go_meet); case rel => exact ⟨_, ((t154 != t113)), zz6, H', ⟨by have := HJ16.out; have := HJ51.out; first | omega | exact Nat.le_refl _⟩, ⟨by (try simp only [hl119001_51]); (with_reducible repeat (first | apply Kd.R_alloc | apply Kd.R_drewN | apply Kd.R_drew)); exact Kd.R_mono HO_12.out (fun _ hk => trivial)⟩, ⟨by (try simp only [hl119001_51]); (with_reducible repeat (first | apply Kd.R_alloc | apply Kd.R_drewN | apply Kd.R_drew)); exact Kd.R_mono HO_119001.out (fun _ hk => trivial)⟩, ⟨by (try simp only [hl119001_51]); (with_reducible repeat (first | refine blk_drewN ?_ _ | refine blk_drew ?_ | refine blk_alloc ?_ _)); exact BK101.out⟩, ⟨by (try simp only [hl119001_51]); (with_reducible repeat (first | refine blk_drewN ?_ _ | refine blk_drew ?_ | refine blk_alloc ?_ _)); exact BK118.out⟩, ⟨zz14⟩⟩
      replace c89 := Bool.eq_false_iff.mpr c89; subst c89; rw [if_neg (show ¬ (false = true) by decide)] at H; have H' := Aside0.mk H; clear H; obtain ⟨Ao92, co92, eo92⟩ := Kd.R_slice HO153.out; subst eo92; obtain ⟨Ao93, co93, eo93⟩ := Kd.R_slice HO_8.out; subst eo93; (go_wp2_with (first | ((with_reducible refine gate_callee (f := 12) rfl ?_); refine goesL_ (some 107) rfl rfl Try.func12 (by kernel_rfl) rfl #[.slice Ao92 t151.length co92, .slice Ao93 t110.length co93] rfl zz3 ?_; (with_reducible refine (laws_eqIntS.calls kj51 _ _ t151 _ _ t110 false _ ?side1 ?side2 ?side3 ?side4 A88.out).mono ?_); (case side1 => repeat (first | exact (Kd.R_reads' HO153.out).2.2 | (with_reducible refine Kd.C_alloc ?_ _) | (with_reducible refine Kd.C_drewN ?_ _) | (with_reducible refine Kd.C_drew ?_))); (case side2 => exact (Kd.R_reads' HO153.out).2.1); (case side3 => exact zz21); (case side4 => exact (Kd.R_reads' HO_8.out).2.1); rintro e w' ⟨rfl, ⟨nd, rfl⟩⟩; refine ⟨_, rfl, ?_⟩))); (go_meet); case rel => exact ⟨_, (true), zz6, H', ⟨by have := HJ16.out; have := HJ51.out; first | omega | exact Nat.le_refl _⟩, ⟨by (try simp only [hl119001_51]); (with_reducible repeat (first | apply Kd.R_alloc | apply Kd.R_drewN | apply Kd.R_drew)); exact Kd.R_mono HO_12.out (fun _ hk => trivial)⟩, ⟨by (try simp only [hl119001_51]); (with_reducible repeat (first | apply Kd.R_alloc | apply Kd.R_drewN | apply Kd.R_drew)); exact Kd.R_mono HO_119001.out (fun _ hk => trivial)⟩, ⟨by (try simp only [hl119001_51]); (with_reducible repeat (first | refine blk_drewN ?_ _ | refine blk_drew ?_ | refine blk_alloc ?_ _)); exact BK101.out⟩, ⟨by (try simp only [hl119001_51]); (with_reducible repeat (first | refine blk_drewN ?_ _ | refine blk_drew ?_ | refine blk_alloc ?_ _)); exact BK118.out⟩, ⟨zz14⟩⟩
     case rest =>
      clear HC78; (try clear c1); (try clear p2); (try clear c3); (try clear c4); (try clear c4b0); (try clear c4b1); (try clear c5); (try clear c6); (try clear c7); (try clear c7b0); (try clear c8); (try clear c9); (try clear c10); (try clear c12); (try clear c13); (try clear c14); (try clear c15); (try clear c16); (try clear c17); (try clear c18); (try clear c30); (try clear c38); (try clear c43); (try clear c46); (try clear c49); (try clear c59); (try clear c63); (try clear c63b0); (try clear c65); (try clear c70); (try clear c73); (try clear c73b0); (try clear c74); (try clear c74b0); (try clear c74b1); (try clear c81); (try clear c89); (try clear hcz19_0); (try clear hcz19_1); (try clear hcz21_0); (try clear hcz21_1); (try clear hcz27_0); (try clear hcz27_1); (try clear hcz31_0); (try clear hcz31_1); (try clear hcz34_0); (try clear hcz34_1); (try clear hcz60_0); (try clear hcz60_1); (try clear hcz82_0); (try clear hcz82_1); (try clear hcz9_0); (try clear hcz9_1); (try clear hfz19_0); (try clear hfz19_1); (try clear hfz21_0); (try clear hfz21_1); (try clear hfz27_0); (try clear hfz27_1); (try clear hfz31_0); (try clear hfz31_1); (try clear hfz34_0); (try clear hfz34_1); (try clear hfz60_0); (try clear hfz60_1); (try clear hfz82_0); (try clear hfz82_1); (try clear hfz9_0); (try clear hfz9_1); (try clear p2); obtain ⟨kq, x113_77, rfl, HA, HJ77, HO_12, HO_119001, BK101, BK118, HB⟩ := hcut; have hl12_77 := (Kd.R_reads' HO_12.out).1; rw [hl12_77] at HO_12; (try simp only [hl12_77]); (try simp only [hl12_77] at BK101); (try simp only [hl12_77] at BK118); (try simp only [hl12_77] at HO_119001)
      cases kq with
      | zero => exact absurd HA.out (by simp [laws_FnExactTimesClass.j2])
      | succ kj77 =>
       have H := HA.out; clear HA; simp only [laws_FnExactTimesClass.j2] at H; by_cases c94 : x113_77 = true
       ·subst c94; rw [if_pos rfl] at H; exact absurd H (by simp)
       replace c94 := Bool.eq_false_iff.mpr c94; subst c94; rw [if_neg (show ¬ (false = true) by decide)] at H; replace H := Option.bind_eq_some_iff.mp H; obtain ⟨t156, A950, H⟩ := H; (try dsimp only at H); have A95 := Aside0.mk A950; clear A950; by_cases c96 : t156 < 0
       ·rw [if_pos c96] at H; exact absurd H (by simp)
       rw [if_neg c96] at H; have c96b0 := decide_eq_false c96; clear c96; by_cases c97 : t156 = t141; rotate_left
       ·rw [if_neg c97] at H; exact absurd H (by simp)
       rw [if_pos c97] at H; have c97b0 : (t156 == t141) = true := beq_iff_eq.mpr c97; have c97b1 : (t156 != t141) = false := bne_eq_false_iff_eq.mpr c97; clear c97; obtain rfl := Option.some.inj H; (go_wp2_with (first | ((with_reducible refine gate_callee (f := 16) rfl ?_); refine goesL_ (some 116) rfl rfl Try.func16 (by kernel_rfl) rfl #[.slice Ao79 t142.length co79, .int .i64 1] rfl zz3 ?_; (with_reducible refine (laws_heldIntS.calls kj77 _ _ t142 1 t156 _ ?side1 ?side2 A95.out).mono ?_); (case side1 => exact zz61); (case side2 => exact (Kd.R_reads' HO_12.out).2.1); rintro e w' ⟨rfl, ⟨nd, rfl⟩⟩; refine ⟨_, rfl, ?_⟩))); go_ret; exact ⟨zz7, zz14⟩
end Go.Proofs.Ytgobnfeahffnaab.P
end

section
namespace Go.Proofs.Ytgobnfeahffnaab.P
open Go.RowKit Go.Proofs.YtgobnfeahffnaabW.PrintWords Go.Proofs.YtgobnfeahffnaabW.PrintLast Go.Proofs.YtgobnfeahffnaabW.PrintMore
attribute [local go_sem] max2_int min2_int max_two min_two max_three min_three max_four min_four
set_option linter.unusedVariables false
set_option linter.unusedSimpArgs false
def impl_isVertex.f (a0_0 : Int) (l0_1 : List (S54)) (a1 : Int) : Option (Bool) := (impl_GraphOk.f a0_0 l0_1).bind fun t102 => (if t102 = true then ((impl_within.f a1 0 (wrap64 (a0_0 - 1))).bind fun t103 => (some t103)) else (some false))
end Go.Proofs.Ytgobnfeahffnaab.P
end

section
namespace Go.Proofs.Ytgobnfeahffnaab.Cf
set_option linter.unusedVariables false
set_option linter.unusedSimpArgs false
open Go.RowKit Go.Proofs.YtgobnfeahffnaabW.PrintWords Go.Proofs.Ytgobnfeahffnaab.P
theorem forall_drop' {α : Type} {l : List α} {P : α → Prop} {i : Nat} (h : i < l.length) : (∀ e ∈ l.drop i, P e) ↔ (P l[i] ∧ ∀ e ∈ l.drop (i + 1), P e) := by
  rw [List.drop_eq_getElem_cons h]
  simp only [List.mem_cons, forall_eq_or_imp]
theorem implGraph (n : Int) (es : List E) : impl_GraphOk.f n es = some (gOk n es) := rfl
theorem allWithin_l0 (a b : Int) (l : List Int) (hl : l.length ≤ 1048576) : ∀ (d i : Nat), i + d = l.length → Ep (fun k => impl_allWithin.l0 k a b l (l.length : Int) (i : Int)) (· = decide (∀ x ∈ l.drop i, a ≤ x ∧ x ≤ b)) := by
  intro d
  induction d with
  | zero =>
    intro i hi
    refine Ep.up ?_
    simp only [impl_allWithin.l0]
    refine Ep.neg (by omega) (Ep.now ?_)
    rw [List.drop_of_length_le (by omega)]
    simp
  | succ d ih =>
    intro i hi
    have hlt : i < l.length := by omega
    refine Ep.up ?_
    simp only [impl_allWithin.l0]
    refine Ep.pos (by omega) (Ep.pos (by omega) (Ep.pos (by omega) ?_))
    rw [rd_get hlt, wrap_succ (by omega)]
    refine Ep.bind0 (within_eq _ _ _) ?_
    refine Ep.ite (fun h => ?_) (fun h => Ep.now ?_)
    · have h' : a ≤ l[i] ∧ l[i] ≤ b := by simpa using h
      refine (ih (i + 1) (by omega)).mono ?_
      rintro _ rfl
      simp only [forall_drop' hlt, h', true_and]
    · have h' : ¬ (a ≤ l[i] ∧ l[i] ≤ b) := by simpa using h
      simp only [forall_drop' hlt, h', false_and, decide_false]
theorem allWithin_ok (l : List Int) (a b : Int) (hl : l.length ≤ 1048576) : Ep (fun k => impl_allWithin.f k l a b) (· = decide (∀ x ∈ l, a ≤ x ∧ x ≤ b)) := by
  have := allWithin_l0 a b l hl l.length 0 (by omega)
  simp only [impl_allWithin.f]
  rw [List.drop_zero] at this
  exact this
/-- The edge with this index is at v. -/
def At (es : List E) (k v : Int) : Prop := ∃ j : Nat, k = j ∧ ∃ h : j < es.length, es[j].f0 = v ∨ es[j].f1 = v
theorem At.of {es : List E} {j : Nat} {v : Int} (hj : j < es.length) : At es (j : Int) v ↔ (es[j].f0 = v ∨ es[j].f1 = v) := by
  constructor
  · rintro ⟨i, hi, h, hx⟩
    have : i = j := by omega
    subst this
    exact hx
  · intro h
    exact ⟨j, rfl, hj, h⟩
end Go.Proofs.Ytgobnfeahffnaab.Cf
end

section
namespace Go.Proofs.Ytgobnfeahffnaab.Cf
set_option linter.unusedVariables false
set_option linter.unusedSimpArgs false
def sumN : Nat → (Nat → Int) → Int
  | 0, _ => 0
  | n + 1, f => sumN n f + f n
def sumE (es : List E) (f : E → Int) : Int := (es.map f).sum
theorem sumE_cons (e : E) (r : List E) (f : E → Int) : sumE (e :: r) f = f e + sumE r f := by simp [sumE]
theorem sumN_congr {n : Nat} {f g : Nat → Int} (h : ∀ i, i < n → f i = g i) : sumN n f = sumN n g := by
  induction n with
  | zero => rfl
  | succ n ih => simp only [sumN]; rw [ih (fun i hi => h i (by omega)), h n (by omega)]
theorem sumN_le {n : Nat} {f g : Nat → Int} (h : ∀ i, i < n → f i ≤ g i) : sumN n f ≤ sumN n g := by
  induction n with
  | zero => exact Int.le_refl _
  | succ n ih =>
    simp only [sumN]
    have := ih (fun i hi => h i (by omega))
    have := h n (by omega)
    omega
theorem sumN_add (n : Nat) (f g : Nat → Int) : sumN n (fun i => f i + g i) = sumN n f + sumN n g := by
  induction n with
  | zero => rfl
  | succ n ih => simp only [sumN]; rw [ih]; omega
theorem sumN_zero (n : Nat) : sumN n (fun _ => 0) = 0 := by
  induction n with
  | zero => rfl
  | succ n ih => simp only [sumN]; rw [ih]; rfl
theorem sumN_const (n : Nat) (c : Int) : sumN n (fun _ => c) = n * c := by
  induction n with
  | zero => simp [sumN]
  | succ n ih => simp only [sumN]; rw [ih]; rw [Int.natCast_succ, Int.add_mul]; omega
theorem sumN_one {n : Nat} (k : Nat) (hk : k < n) (c : Int) : sumN n (fun i => if i = k then c else 0) = c := by
  induction n with
  | zero => omega
  | succ n ih =>
    simp only [sumN]
    by_cases h : n = k
    · subst h
      rw [if_pos rfl, sumN_congr (g := fun _ => 0) (fun i hi => by rw [if_neg (by omega)]), sumN_zero]
      omega
    · rw [ih (by omega), if_neg h]
      omega
theorem sumN_pos_term {n : Nat} {f : Nat → Int} (h : ∀ i, i < n → 0 ≤ f i) (k : Nat) (hk : k < n) : f k ≤ sumN n f := by
  induction n with
  | zero => omega
  | succ n ih =>
    simp only [sumN]
    have h0 : 0 ≤ sumN n f := by
      have := sumN_le (n := n) (f := fun _ => 0) (g := f) (fun i hi => h i (by omega))
      rw [sumN_zero] at this
      exact this
    by_cases e : k = n
    · subst e; omega
    · have := ih (fun i hi => h i (by omega)) (by omega)
      have := h n (by omega)
      omega
theorem sumE_congr {es : List E} {f g : E → Int} (h : ∀ e ∈ es, f e = g e) : sumE es f = sumE es g := by
  unfold sumE
  rw [List.map_congr_left h]
theorem sumE_add (es : List E) (f g : E → Int) : sumE es (fun e => f e + g e) = sumE es f + sumE es g := by
  induction es with
  | nil => rfl
  | cons e r ih => rw [sumE_cons, sumE_cons, sumE_cons, ih]; omega
theorem sumE_le {es : List E} {f g : E → Int} (h : ∀ e ∈ es, f e ≤ g e) : sumE es f ≤ sumE es g := by
  induction es with
  | nil => exact Int.le_refl _
  | cons e r ih =>
    rw [sumE_cons, sumE_cons]
    have := ih (fun x hx => h x (List.mem_cons_of_mem _ hx))
    have := h e List.mem_cons_self
    omega
theorem sumE_zero {es : List E} {f : E → Int} (h : ∀ e ∈ es, f e = 0) : sumE es f = 0 := by
  induction es with
  | nil => rfl
  | cons e r ih => rw [sumE_cons, ih (fun x hx => h x (List.mem_cons_of_mem _ hx)), h e List.mem_cons_self]; rfl
theorem sumE_nonneg {es : List E} {f : E → Int} (h : ∀ e ∈ es, 0 ≤ f e) : 0 ≤ sumE es f := by
  have := sumE_le (es := es) (f := fun _ => 0) (g := f) h
  rw [sumE_zero (fun _ _ => rfl)] at this
  exact this
theorem sumE_term {es : List E} {f : E → Int} (h : ∀ e ∈ es, 0 ≤ f e) {e : E} (he : e ∈ es) : f e ≤ sumE es f := by
  induction es with
  | nil => cases he
  | cons a r ih =>
    rw [sumE_cons]
    have h0 := sumE_nonneg (fun x hx => h x (List.mem_cons_of_mem a hx))
    rcases List.mem_cons.1 he with rfl | he
    · omega
    · have := ih (fun x hx => h x (List.mem_cons_of_mem _ hx)) he
      have := h a List.mem_cons_self
      omega
theorem sumE_neg (es : List E) (f : E → Int) : sumE es (fun e => - f e) = - sumE es f := by
  induction es with
  | nil => rfl
  | cons e r ih => rw [sumE_cons, sumE_cons, ih]; omega
theorem sumE_mul (es : List E) (c : Int) (f : E → Int) : sumE es (fun e => c * f e) = c * sumE es f := by
  induction es with
  | nil => simp [sumE]
  | cons e r ih => rw [sumE_cons, sumE_cons, ih, Int.mul_add]
/-- What an edge takes from w when the script s is fired. -/
def lapE (s : Int → Int) (w : Int) (e : E) : Int := (if e.f0 = w then s e.f0 - s e.f1 else 0) + (if e.f1 = w then s e.f1 - s e.f0 else 0)
/-- What w loses when the script s is fired. -/
def lap (es : List E) (s : Int → Int) (w : Int) : Int := sumE es (lapE s w)
def ind (P : Int → Bool) (v : Int) : Int := if P v then 1 else 0
def one (v : Int) (t : Int) (w : Int) : Int := if w = v then t else 0
theorem lap_nil (s : Int → Int) (w : Int) : lap [] s w = 0 := rfl
theorem lap_cons (e : E) (r : List E) (s : Int → Int) (w : Int) : lap (e :: r) s w = lapE s w e + lap r s w := sumE_cons _ _ _
theorem lap_add (es : List E) (s t : Int → Int) (w : Int) : lap es (fun v => s v + t v) w = lap es s w + lap es t w := by
  unfold lap
  rw [← sumE_add]
  apply sumE_congr
  intro e _
  simp only [lapE]
  split <;> split <;> omega
theorem lap_neg (es : List E) (s : Int → Int) (w : Int) : lap es (fun v => - s v) w = - lap es s w := by
  unfold lap
  rw [← sumE_neg]
  apply sumE_congr
  intro e _
  simp only [lapE]
  split <;> split <;> omega
theorem lap_sub (es : List E) (s t : Int → Int) (w : Int) : lap es (fun v => s v - t v) w = lap es s w - lap es t w := by
  have := lap_add es s (fun v => - t v) w
  rw [lap_neg] at this
  rw [show (fun v => s v - t v) = (fun v => s v + - t v) from funext fun v => by omega, this]
  omega
theorem lap_congr {n : Int} {es : List E} (hes : ∀ e ∈ es, EOk n e) {s t : Int → Int} (h : ∀ v, 0 ≤ v → v < n → s v = t v) (w : Int) : lap es s w = lap es t w := by
  apply sumE_congr
  intro e he
  have hk := hes e he
  unfold EOk at hk
  unfold lapE
  rw [h e.f0 (by omega) (by omega), h e.f1 (by omega) (by omega)]
theorem lap_const {es : List E} {s : Int → Int} {c : Int} (h : ∀ e ∈ es, s e.f0 = c ∧ s e.f1 = c) (w : Int) : lap es s w = 0 := by
  apply sumE_zero
  intro e he
  unfold lapE
  rw [(h e he).1, (h e he).2]
  split <;> split <;> omega
/-- Dirichlet's form. -/
theorem dirichlet {n : Nat} {es : List E} (hes : ∀ e ∈ es, EOk n e) (f s : Int → Int) : sumN n (fun i => f i * lap es s i) = sumE es (fun e => (f e.f0 - f e.f1) * (s e.f0 - s e.f1)) := by
  induction es with
  | nil => simp only [lap_nil, Int.mul_zero]; rw [sumN_zero]; rfl
  | cons e r ih =>
    have hk := hes e List.mem_cons_self
    unfold EOk at hk
    rw [sumE_cons, ← ih (fun x hx => hes x (List.mem_cons_of_mem _ hx))]
    have h1 : sumN n (fun i => f i * lap (e :: r) s i) = sumN n (fun i => f i * lapE s i e) + sumN n (fun i => f i * lap r s i) := by
      rw [← sumN_add]
      apply sumN_congr
      intro i _
      rw [lap_cons, Int.mul_add]
    rw [h1]
    congr 1
    have h2 : sumN n (fun i => f i * lapE s i e) = sumN n (fun i => if i = e.f0.toNat then f e.f0 * (s e.f0 - s e.f1) else 0) + sumN n (fun i => if i = e.f1.toNat then f e.f1 * (s e.f1 - s e.f0) else 0) := by
      rw [← sumN_add]
      apply sumN_congr
      intro i _
      unfold lapE
      have c0 : (e.f0 = (i : Int)) ↔ (i = e.f0.toNat) := by omega
      have c1 : (e.f1 = (i : Int)) ↔ (i = e.f1.toNat) := by omega
      rw [Int.mul_add]
      congr 1
      · by_cases h : e.f0 = (i : Int)
        · rw [if_pos h, if_pos (c0.1 h), h]
        · rw [if_neg h, if_neg (fun x => h (c0.2 x)), Int.mul_zero]
      · by_cases h : e.f1 = (i : Int)
        · rw [if_pos h, if_pos (c1.1 h), h]
        · rw [if_neg h, if_neg (fun x => h (c1.2 x)), Int.mul_zero]
    rw [h2, sumN_one _ (by omega), sumN_one _ (by omega)]
    rw [show s e.f1 - s e.f0 = -(s e.f0 - s e.f1) by omega, Int.mul_neg, Int.sub_mul]
    omega
/-- Firing keeps the degree. -/
theorem lap_sum {n : Nat} {es : List E} (hes : ∀ e ∈ es, EOk n e) (s : Int → Int) : sumN n (fun i => lap es s i) = 0 := by
  have := dirichlet hes (fun _ => 1) s
  simp only [Int.one_mul, Int.sub_self, Int.zero_mul] at this
  rw [this]
  exact sumE_zero (fun _ _ => rfl)
/-- q-reduced. -/
def Red (n : Nat) (es : List E) (q : Int) (d : Int → Int) : Prop :=
  (∀ v : Int, 0 ≤ v → v < n → v ≠ q → 0 ≤ d v) ∧ ∀ S : Int → Bool, S q = false → (∃ v : Int, 0 ≤ v ∧ v < n ∧ S v = true) → ∃ v : Int, 0 ≤ v ∧ v < n ∧ S v = true ∧ d v < lap es (ind S) v
/-- The greatest value. -/
theorem exists_max {n : Nat} (h : 0 < n) (s : Int → Int) : ∃ m : Nat, m < n ∧ ∀ v : Int, 0 ≤ v → v < n → s v ≤ s m := by
  induction n with
  | zero => omega
  | succ n ih =>
    by_cases h0 : n = 0
    · subst h0
      exact ⟨0, by omega, fun v h1 h2 => by have : v = ((0 : Nat) : Int) := by omega
                                            rw [this]; exact Int.le_refl _⟩
    · obtain ⟨m, hm, hmax⟩ := ih (by omega)
      by_cases hc : s m ≤ s n
      · refine ⟨n, by omega, fun v h1 h2 => ?_⟩
        by_cases e : v = n
        · subst e; exact Int.le_refl _
        · have := hmax v h1 (by omega)
          omega
      · refine ⟨m, by omega, fun v h1 h2 => ?_⟩
        by_cases e : v = n
        · subst e; omega
        · exact hmax v h1 (by omega)
/-- Where s is greatest, it takes at least as much as its greatest set does. -/
theorem lap_max {n : Int} {es : List E} (hes : ∀ e ∈ es, EOk n e) {s : Int → Int} {M : Int} (hM : ∀ v, 0 ≤ v → v < n → s v ≤ M) {v : Int} (hv : s v = M) : lap es (ind (fun x => decide (s x = M))) v ≤ lap es s v := by
  apply sumE_le
  intro e he
  have hk := hes e he
  unfold EOk at hk
  have h0 := hM e.f0 (by omega) (by omega)
  have h1 := hM e.f1 (by omega) (by omega)
  unfold lapE ind
  by_cases a : e.f0 = v
  · have a' : s e.f0 = M := by rw [a]; exact hv
    have b : ¬ e.f1 = v := by omega
    rw [if_pos a, if_pos a, if_neg b, if_neg b]
    by_cases c : s e.f1 = M
    · simp [a', c]
    · simp [a', c]; omega
  · rw [if_neg a, if_neg a]
    by_cases b : e.f1 = v
    · have b' : s e.f1 = M := by rw [b]; exact hv
      rw [if_pos b, if_pos b]
      by_cases c : s e.f0 = M
      · simp [b', c]
      · simp [b', c]; omega
    · rw [if_neg b, if_neg b]
      exact Int.le_refl _
theorem red_max {n : Nat} {es : List E} (hes : ∀ e ∈ es, EOk n e) {q : Int} (hq : 0 ≤ q ∧ q < n) {d d' s : Int → Int} (hd : Red n es q d) (hd' : ∀ v : Int, 0 ≤ v → v < n → v ≠ q → 0 ≤ d' v) (hs : ∀ v : Int, 0 ≤ v → v < n → d' v = d v - lap es s v) : ∀ v : Int, 0 ≤ v → v < n → s v ≤ s q := by
  obtain ⟨m, hm, hmax⟩ := exists_max (n := n) (by omega) s
  by_cases hc : s m ≤ s q
  · intro v h1 h2
    have := hmax v h1 h2
    omega
  · exfalso
    obtain ⟨v, h1, h2, hS, hlt⟩ := hd.2 (fun x => decide (s x = s m)) (by simp; omega) ⟨m, by omega, by omega, by simp⟩
    have hv : s v = s m := by simpa using hS
    have hle := lap_max hes hmax hv
    have hvq : v ≠ q := by rintro rfl; omega
    have := hd' v h1 h2 hvq
    rw [hs v h1 h2] at this
    omega
/-- Two reduced divisors of one class are one, and the script between them is constant. -/
theorem red_unique {n : Nat} {es : List E} (hes : ∀ e ∈ es, EOk n e) {q : Int} (hq : 0 ≤ q ∧ q < n) {d d' s : Int → Int} (hd : Red n es q d) (hd' : Red n es q d') (hs : ∀ v : Int, 0 ≤ v → v < n → d' v = d v - lap es s v) :
    (∀ v : Int, 0 ≤ v → v < n → s v = s q) ∧ ∀ v : Int, 0 ≤ v → v < n → d' v = d v := by
  have h1 := red_max hes hq hd hd'.1 hs
  have h2 := red_max (s := fun v => - s v) hes hq hd' hd.1 (fun v a b => by rw [lap_neg, hs v a b]; omega)
  have hc : ∀ v : Int, 0 ≤ v → v < n → s v = s q := fun v a b => by
    have := h1 v a b
    have := h2 v a b
    omega
  refine ⟨hc, fun v a b => ?_⟩
  rw [hs v a b, lap_const (c := s q) (fun e he => ?_)]
  · omega
  · have hk := hes e he
    unfold EOk at hk
    exact ⟨hc _ (by omega) (by omega), hc _ (by omega) (by omega)⟩
/-- Across an edge out of a set that is above, no more than what the set loses. -/
theorem cut_le {n : Nat} {es : List E} (hes : ∀ e ∈ es, EOk n e) {s : Int → Int} {t C : Int} (hC : sumN n (fun i => ind (fun v => decide (t ≤ s v)) i * lap es s i) ≤ C) {a b : Int} (hab : Adj es a b) (ha : t ≤ s a) (hb : s b < t) : s a - s b ≤ C := by
  rw [dirichlet hes] at hC
  obtain ⟨e, he, hx⟩ := hab
  have hnn : ∀ e ∈ es, 0 ≤ (ind (fun v => decide (t ≤ s v)) e.f0 - ind (fun v => decide (t ≤ s v)) e.f1) * (s e.f0 - s e.f1) := by
    intro e _
    unfold ind
    by_cases h0 : t ≤ s e.f0 <;> by_cases h1 : t ≤ s e.f1 <;> simp [h0, h1] <;> omega
  have h1 := sumE_term hnn he
  have h2 : s a - s b ≤ (ind (fun v => decide (t ≤ s v)) e.f0 - ind (fun v => decide (t ≤ s v)) e.f1) * (s e.f0 - s e.f1) := by
    unfold ind
    rcases hx with ⟨x0, x1⟩ | ⟨x0, x1⟩
    · subst x0; subst x1
      have h1 : ¬ t ≤ s e.f1 := by omega
      simp [ha, h1]
    · subst x0; subst x1
      have h1 : ¬ t ≤ s e.f0 := by omega
      simp [ha, h1]
      omega
  omega
/-- From a set that is not all and not closed an edge leads out. -/
theorem exists_cut {es : List E} {S : Int → Prop} {a b : Int} (hab : Conn es a b) (ha : ¬ S a) (hb : S b) : ∃ u w, Adj es u w ∧ S u ∧ ¬ S w := by
  induction hab with
  | refl => exact absurd hb ha
  | @tail x y _ hadj ih =>
    by_cases hx : S x
    · exact ih hx
    · exact ⟨y, x, hadj.symm, hb, hx⟩
def below (n : Nat) (s : Int → Int) (t : Int) : Nat := (List.range n).countP (fun i => decide (s (i : Nat) < t))
/-- A script that is 0 at q, all of whose upper sets lose no more than C, is at most 6 C. -/
theorem script_le {n : Nat} {es : List E} (hes : ∀ e ∈ es, EOk n e) (hj : Joined n es) {q : Int} (hq : 0 ≤ q ∧ q < n) {s : Int → Int} {C : Int} (hC0 : 0 ≤ C) (hsq : s q ≤ 0)
    (hC : ∀ t : Int, 0 < t → sumN n (fun i => ind (fun v => decide (t ≤ s v)) i * lap es s i) ≤ C) : ∀ v : Int, 0 ≤ v → v < n → s v ≤ n * C := by
  have key : ∀ k : Nat, ∀ v : Int, 0 ≤ v → v < n → below n s (s v) ≤ k → s v ≤ k * C := by
    intro k
    induction k with
    | zero =>
      intro v h0 h1 hk
      apply Classical.byContradiction
      intro hc
      have hpos : 0 < below n s (s v) := by
        unfold below
        rw [List.countP_pos_iff]
        refine ⟨q.toNat, List.mem_range.2 (by omega), ?_⟩
        have : ((q.toNat : Nat) : Int) = q := by omega
        rw [this]
        simp
        omega
      omega
    | succ k ih =>
      intro v h0 h1 hk
      by_cases hpos : s v ≤ 0
      · have : 0 ≤ ((k + 1 : Nat) : Int) * C := Int.mul_nonneg (by omega) hC0
        omega
      · have hqv : Conn es q v := ((hj q hq.1 hq.2).symm).trans (hj v h0 h1)
        obtain ⟨u, w, hadj, hu, hw⟩ := exists_cut (S := fun x => s v ≤ s x) hqv (by omega) (Int.le_refl _)
        have hcut := cut_le hes (hC (s v) (by omega)) hadj hu (by omega)
        have hw0 := EsOk.adj hes hadj
        have hlt : below n s (s w) < below n s (s v) := by
          refine countP_lt (fun x _ hx => ?_) ⟨w.toNat, List.mem_range.2 (by omega), ?_, ?_⟩
          · simp only [decide_eq_true_eq] at hx ⊢
            omega
          · have : ((w.toNat : Nat) : Int) = w := by omega
            rw [this]; simp
          · have : ((w.toNat : Nat) : Int) = w := by omega
            rw [this]; simp; omega
        have := ih w hw0.1 hw0.2 (by omega)
        rw [Int.natCast_succ, Int.add_mul, Int.one_mul]
        omega
  intro v h0 h1
  refine key n v h0 h1 ?_
  have := List.countP_le_length (p := fun i => decide (s ((i : Nat) : Int) < s v)) (l := List.range n)
  rw [List.length_range] at this
  exact this
theorem script_bd {n : Nat} {es : List E} (hes : ∀ e ∈ es, EOk n e) (hj : Joined n es) {q : Int} (hq : 0 ≤ q ∧ q < n) {s : Int → Int} {c : Int} (hc : 0 ≤ c) (hsq : s q ≤ 0)
    (h : ∀ v : Int, 0 ≤ v → v < n → 0 < s v → lap es s v ≤ c) : ∀ v : Int, 0 ≤ v → v < n → s v ≤ n * (n * c) := by
  refine script_le hes hj hq (Int.mul_nonneg (by omega) hc) hsq ?_
  intro t ht
  rw [← sumN_const]
  apply sumN_le
  intro i hi
  unfold ind
  by_cases hx : t ≤ s i
  · simp only [hx, decide_true, if_true, Int.one_mul]
    exact h i (by omega) (by omega) (by omega)
  · simp only [hx, decide_false, Int.zero_mul, Bool.false_eq_true, if_false]
    exact hc
def valE (v : Int) (e : E) : Int := if e.f0 = v ∨ e.f1 = v then 1 else 0
/-- The number of edges at a vertex. -/
def val (es : List E) (v : Int) : Int := sumE es (valE v)
def multE (a b : Int) (e : E) : Int := if (e.f0 = a ∧ e.f1 = b) ∨ (e.f0 = b ∧ e.f1 = a) then 1 else 0
/-- The number of edges between two vertices. -/
def mult (es : List E) (a b : Int) : Int := sumE es (multE a b)
theorem val_nonneg (es : List E) (v : Int) : 0 ≤ val es v := sumE_nonneg fun e _ => by unfold valE; split <;> omega
theorem mult_nonneg (es : List E) (a b : Int) : 0 ≤ mult es a b := sumE_nonneg fun e _ => by unfold multE; split <;> omega
theorem sumE_len {es : List E} {f : E → Int} (h : ∀ e ∈ es, f e ≤ 1) : sumE es f ≤ es.length := by
  induction es with
  | nil => simp [sumE]
  | cons e r ih =>
    rw [sumE_cons]
    have := ih (fun x hx => h x (List.mem_cons_of_mem _ hx))
    have := h e List.mem_cons_self
    simp only [List.length_cons]
    omega
theorem val_le (es : List E) (v : Int) : val es v ≤ es.length := sumE_len fun e _ => by unfold valE; split <;> omega
theorem mult_le (es : List E) (a b : Int) : mult es a b ≤ es.length := sumE_len fun e _ => by unfold multE; split <;> omega
/-- One vertex fires: it loses its valence. -/
theorem lap_one_self {n : Int} {es : List E} (hes : ∀ e ∈ es, EOk n e) (v t : Int) : lap es (one v t) v = t * val es v := by
  unfold lap val
  rw [← sumE_mul]
  apply sumE_congr
  intro e he
  have hk := hes e he
  unfold EOk at hk
  unfold lapE valE one
  by_cases a : e.f0 = v
  · have b : ¬ e.f1 = v := by omega
    simp [a, b]
  · by_cases b : e.f1 = v
    · simp [a, b]
    · simp [a, b]
/-- .. and another one gains along their edges. -/
theorem lap_one_ne {n : Int} {es : List E} (hes : ∀ e ∈ es, EOk n e) {v w : Int} (hvw : w ≠ v) (t : Int) : lap es (one v t) w = - (t * mult es v w) := by
  unfold lap mult
  rw [← sumE_mul, ← sumE_neg]
  apply sumE_congr
  intro e he
  have hk := hes e he
  unfold EOk at hk
  unfold lapE multE one
  by_cases a : e.f0 = w
  · have b : ¬ e.f1 = w := by omega
    have c : ¬ e.f0 = v := by omega
    by_cases x : e.f1 = v
    · simp [a, x]; omega
    · simp [a, b, x, hvw]
  · by_cases b : e.f1 = w
    · have c : ¬ e.f1 = v := by omega
      by_cases x : e.f0 = v
      · simp [a, b, x]; omega
      · simp [a, b, x, hvw]
    · simp [a, b]
theorem val_pos {n : Nat} {es : List E} (hj : Joined n es) {q v : Int} (hq : 0 ≤ q ∧ q < n) (hv : 0 ≤ v ∧ v < n) (hne : v ≠ q) : 0 < val es v := by
  have hc : Conn es q v := ((hj q hq.1 hq.2).symm).trans (hj v hv.1 hv.2)
  obtain ⟨u, w, ⟨e, he, hx⟩, hu, hw⟩ := exists_cut (S := fun x => x = v) hc (fun h => hne h.symm) rfl
  subst hu
  have h1 := sumE_term (f := valE u) (fun e _ => by unfold valE; split <;> omega) he
  have h2 : valE u e = 1 := by
    unfold valE
    rw [if_pos]
    rcases hx with ⟨a, _⟩ | ⟨_, b⟩
    · exact .inl a
    · exact .inr b
  unfold val
  omega
/-- s is reached from p by toppling unstable vertices other than q. -/
inductive Legal (n : Nat) (es : List E) (q : Int) (p : Int → Int) : (Int → Int) → Prop
  | zero : Legal n es q p (fun _ => 0)
  | step {s : Int → Int} {v : Int} : Legal n es q p s → 0 ≤ v → v < n → v ≠ q → val es v ≤ p v - lap es s v → Legal n es q p (fun w => s w + one v 1 w)
theorem lap_le_zero {es : List E} {r : Int → Int} {v : Int} (h : ∀ w, 0 ≤ r w) (hv : r v = 0) : lap es r v ≤ 0 := by
  have := sumE_le (es := es) (f := lapE r v) (g := fun _ => 0) (fun e _ => by
    unfold lapE
    have h0 := h e.f0
    have h1 := h e.f1
    by_cases a : e.f0 = v
    · by_cases b : e.f1 = v
      · simp [a, b]
      · rw [if_pos a, if_neg b, a, hv]; omega
    · by_cases b : e.f1 = v
      · rw [if_neg a, if_pos b, b, hv]; omega
      · rw [if_neg a, if_neg b]; omega)
  rw [sumE_zero (fun _ _ => rfl)] at this
  exact this
theorem Legal.nonneg {n : Nat} {es : List E} {q : Int} {p s : Int → Int} (h : Legal n es q p s) : (∀ w, 0 ≤ s w) ∧ s q = 0 := by
  induction h with
  | zero => exact ⟨fun _ => Int.le_refl _, rfl⟩
  | @step s v _ _ _ hq _ ih =>
    refine ⟨fun w => ?_, ?_⟩
    · have := ih.1 w
      show 0 ≤ s w + one v 1 w
      unfold one
      split <;> omega
    · have := ih.2
      show s q + one v 1 q = 0
      unfold one
      rw [if_neg (fun x : q = v => hq x.symm)]
      omega
/-- Several topplings of one vertex at once. -/
theorem Legal.many {n : Nat} {es : List E} (hes : ∀ e ∈ es, EOk n e) {q : Int} {p s : Int → Int} (h : Legal n es q p s) {v : Int} (h0 : 0 ≤ v) (h1 : v < n) (hq : v ≠ q) : ∀ k : Nat, k * val es v ≤ p v - lap es s v → Legal n es q p (fun w => s w + one v k w)
  | 0, _ => by
    have : (fun w => s w + one v ((0 : Nat) : Int) w) = s := by
      funext w
      unfold one
      split <;> simp
    rw [this]
    exact h
  | k + 1, hk => by
    have hv := val_nonneg es v
    rw [Int.natCast_succ, Int.add_mul] at hk
    have ih := Legal.many hes h h0 h1 hq k (by omega)
    have := Legal.step ih h0 h1 hq (by
      rw [lap_add, lap_one_self hes]
      omega)
    have e : (fun w => s w + one v ((k + 1 : Nat) : Int) w) = fun w => s w + one v (k : Int) w + one v 1 w := by
      funext w
      unfold one
      split <;> omega
    rw [e]
    exact this
end Go.Proofs.Ytgobnfeahffnaab.Cf
end

section
namespace Go.Proofs.Ytgobnfeahffnaab.P
open Go.RowKit Go.Proofs.YtgobnfeahffnaabW.PrintWords Go.Proofs.YtgobnfeahffnaabW.PrintLast Go.Proofs.YtgobnfeahffnaabW.PrintMore
attribute [local go_sem] max2_int min2_int max_two min_two max_three min_three max_four min_four
set_option linter.unusedVariables false
set_option linter.unusedSimpArgs false
def spec_IsEffective.l0 : Nat → List Int → Int → Int → Option (Bool)
 | 0, _, _, _ => none
 | k + 1, x5, x6, x7 => if x7 < x6 then (if 0 ≤ x7 then (if x7 < (x5.length : Int) then (if (rd x5 x7) < 0 then (some false) else (spec_IsEffective.l0 k x5 x6 (wrap64 (x7 + 1)))) else (none)) else (none)) else (some true)
def spec_IsEffective.f (k : Nat) (l0 : List Int) : Option (Bool) := spec_IsEffective.l0 k l0 (l0.length : Int) 0
theorem spec_IsEffective.mono_l : ∀ k, (∀ y0 y1 y2, LeO (spec_IsEffective.l0 k y0 y1 y2) (spec_IsEffective.l0 (k + 1) y0 y1 y2))
 | 0 => fun _ _ _ r h => by simp [spec_IsEffective.l0] at h
 | k + 1 => by
  have ih0 := spec_IsEffective.mono_l k
  ·intro y0 y1 y2
   unfold spec_IsEffective.l0
   exact zm0
theorem spec_IsEffective.mono : ∀ a0 k, LeO (spec_IsEffective.f k a0) (spec_IsEffective.f (k + 1) a0) := by
 intro a0 k; have ih0 := spec_IsEffective.mono_l k; unfold spec_IsEffective.f; exact zm0
def impl_IsEffective.l0 : Nat → List Int → Int → Int → Option (Bool)
 | 0, _, _, _ => none
 | k + 1, x5, x6, x7 => if x7 < x6 then (if 0 ≤ x7 then (if x7 < (x5.length : Int) then (if (rd x5 x7) < 0 then (some false) else (impl_IsEffective.l0 k x5 x6 (wrap64 (x7 + 1)))) else (none)) else (none)) else (some true)
def impl_IsEffective.f (k : Nat) (l0 : List Int) : Option (Bool) := impl_IsEffective.l0 k l0 (l0.length : Int) 0
theorem impl_IsEffective.mono_l : ∀ k, (∀ y0 y1 y2, LeO (impl_IsEffective.l0 k y0 y1 y2) (impl_IsEffective.l0 (k + 1) y0 y1 y2))
 | 0 => fun _ _ _ r h => by simp [impl_IsEffective.l0] at h
 | k + 1 => by
  have ih0 := impl_IsEffective.mono_l k
  ·intro y0 y1 y2
   unfold impl_IsEffective.l0
   exact zm0
theorem impl_IsEffective.mono : ∀ a0 k, LeO (impl_IsEffective.f k a0) (impl_IsEffective.f (k + 1) a0) := by
 intro a0 k; have ih0 := impl_IsEffective.mono_l k; unfold impl_IsEffective.f; exact zm0
def spec_PileOk.f (k : Nat) (a0_0 : Int) (l0_1 : List (S54)) (l1 : List Int) (a2 : Int) : Option (Bool) := (spec_DivisorOk.f k a0_0 l0_1 l1).bind fun t102 => (if t102 = true then ((spec_l01In.f a2 0 (wrap64 (a0_0 - 1))).bind fun t103 => (if t103 = true then ((spec_IsEffective.f k l1).bind fun t104 => (if t104 = true then (if 0 ≤ a2 then (if a2 < (l1.length : Int) then (some ((rd l1 a2) == 0)) else (none)) else (none)) else (some false))) else (some false))) else (some false))
theorem spec_PileOk.mono : ∀ a0 a1 a2 a3 k, LeO (spec_PileOk.f k a0 a1 a2 a3) (spec_PileOk.f (k + 1) a0 a1 a2 a3) := by
 intro a0 a1 a2 a3 k; unfold spec_PileOk.f; repeat' first | (with_reducible apply spec_DivisorOk.mono) | (with_reducible apply spec_IsEffective.mono) | (with_reducible exact LeO.refl _) | (with_reducible exact LeO.none _) | (with_reducible refine LeO.ite ?_ ?_) | (with_reducible refine LeO.bind ?_ (fun _ => ?_)) | apply spec_DivisorOk.mono | apply spec_IsEffective.mono | exact LeO.none _ | refine LeO.ite ?_ ?_ | refine LeO.bind ?_ (fun _ => ?_)
def impl_PileOk.f (k : Nat) (a0_0 : Int) (l0_1 : List (S54)) (l1 : List Int) (a2 : Int) : Option (Bool) := (impl_DivisorOk.f k a0_0 l0_1 l1).bind fun t102 => (if t102 = true then ((impl_within.f a2 0 (wrap64 (a0_0 - 1))).bind fun t103 => (if t103 = true then ((impl_IsEffective.f k l1).bind fun t104 => (if t104 = true then (if 0 ≤ a2 then (if a2 < (l1.length : Int) then (some ((rd l1 a2) == 0)) else (none)) else (none)) else (some false))) else (some false))) else (some false))
theorem impl_PileOk.mono : ∀ a0 a1 a2 a3 k, LeO (impl_PileOk.f k a0 a1 a2 a3) (impl_PileOk.f (k + 1) a0 a1 a2 a3) := by
 intro a0 a1 a2 a3 k; unfold impl_PileOk.f; repeat' first | (with_reducible apply impl_DivisorOk.mono) | (with_reducible apply impl_IsEffective.mono) | (with_reducible exact LeO.refl _) | (with_reducible exact LeO.none _) | (with_reducible refine LeO.ite ?_ ?_) | (with_reducible refine LeO.bind ?_ (fun _ => ?_)) | apply impl_DivisorOk.mono | apply impl_IsEffective.mono | exact LeO.none _ | refine LeO.ite ?_ ?_ | refine LeO.bind ?_ (fun _ => ?_)
def spec_Valence.l0 : Nat → Int → Int → List (S54) → Int → Int → Option (Int)
 | 0, _, _, _, _, _ => none
 | k + 1, x1, x5, x13, x14, x15 => if x15 < x14 then (if 0 ≤ x15 then (if x15 < (x13.length : Int) then (if ((rd_T54 x13 x15).f0) = x1 then (spec_Valence.l0 k x1 (wrap64 (x5 + 1)) x13 x14 (wrap64 (x15 + 1))) else (if ((rd_T54 x13 x15).f1) = x1 then (spec_Valence.l0 k x1 (wrap64 (x5 + 1)) x13 x14 (wrap64 (x15 + 1))) else (spec_Valence.l0 k x1 x5 x13 x14 (wrap64 (x15 + 1))))) else (none)) else (none)) else (some x5)
def spec_Valence.f (k : Nat) (a0_0 : Int) (l0_1 : List (S54)) (a1 : Int) : Option (Int) := (spec_l02Vert.f a0_0 l0_1 a1).bind fun t102 => (if t102 = true then (spec_Valence.l0 k a1 0 l0_1 (l0_1.length : Int) 0) else (some 0))
theorem spec_Valence.mono_l : ∀ k, (∀ y0 y1 y2 y3 y4, LeO (spec_Valence.l0 k y0 y1 y2 y3 y4) (spec_Valence.l0 (k + 1) y0 y1 y2 y3 y4))
 | 0 => fun _ _ _ _ _ r h => by simp [spec_Valence.l0] at h
 | k + 1 => by
  have ih0 := spec_Valence.mono_l k
  ·intro y0 y1 y2 y3 y4
   unfold spec_Valence.l0
   exact zm0
theorem spec_Valence.mono : ∀ a0 a1 a2 k, LeO (spec_Valence.f k a0 a1 a2) (spec_Valence.f (k + 1) a0 a1 a2) := by
 intro a0 a1 a2 k; have ih0 := spec_Valence.mono_l k; unfold spec_Valence.f; exact zm0
end Go.Proofs.Ytgobnfeahffnaab.P
end

section
namespace Go.Proofs.Ytgobnfeahffnaab.Cf
set_option linter.unusedVariables false
set_option linter.unusedSimpArgs false
open Go.RowKit Go.Proofs.YtgobnfeahffnaabW.PrintWords Go.Proofs.Ytgobnfeahffnaab.P
/-- A divisor. -/
def dOk (n : Int) (es : List E) (d : List Int) : Bool := gOk n es && (decide ((d.length : Int) = n) && decide (∀ x ∈ d, -60 ≤ x ∧ x ≤ 60))
theorem dOk_iff {n : Int} {es : List E} {d : List Int} : dOk n es d = true ↔ GOk n es ∧ (d.length : Int) = n ∧ ∀ x ∈ d, -60 ≤ x ∧ x ≤ 60 := by
  unfold dOk
  simp only [Bool.and_eq_true, decide_eq_true_eq, gOk_iff]
theorem specDiv_l0 (o : List Int) (hl : o.length ≤ 1048576) : ∀ (d i : Nat), i + d = o.length → Ep (fun k => spec_DivisorOk.l0 k o (o.length : Int) (i : Int)) (· = decide (∀ x ∈ o.drop i, -60 ≤ x ∧ x ≤ 60)) := by
  intro d
  induction d with
  | zero =>
    intro i hi
    refine Ep.up ?_
    simp only [spec_DivisorOk.l0]
    refine Ep.neg (by omega) (Ep.now ?_)
    rw [List.drop_of_length_le (by omega)]
    simp
  | succ d ih =>
    intro i hi
    have hlt : i < o.length := by omega
    refine Ep.up ?_
    simp only [spec_DivisorOk.l0]
    refine Ep.pos (by omega) (Ep.pos (by omega) (Ep.pos (by omega) ?_))
    rw [rd_get hlt, wrap_succ (by omega)]
    refine Ep.bind0 (l01In_eq _ _ _) ?_
    refine Ep.ite (fun h => ?_) (fun h => Ep.now ?_)
    · have h' : -60 ≤ o[i] ∧ o[i] ≤ 60 := by simpa using h
      refine (ih (i + 1) (by omega)).mono ?_
      rintro _ rfl
      simp only [forall_drop' hlt, h', true_and]
    · have h' : ¬ (-60 ≤ o[i] ∧ o[i] ≤ 60) := by simpa using h
      simp only [forall_drop' hlt, h', false_and, decide_false]
theorem specDiv (n : Int) (es : List E) (d : List Int) (hl : d.length ≤ 1048576) : Ep (fun k => spec_DivisorOk.f k n es d) (· = dOk n es d) := by
  simp only [spec_DivisorOk.f, dOk]
  refine Ep.bind (specGraph n es) ?_
  rintro _ rfl
  refine Ep.ite (fun hg => ?_) (fun hg => ?_)
  · refine Ep.up ?_
    simp only [spec_DivisorOk.j0]
    refine Ep.ite (fun h => Ep.now ?_) (fun h => ?_)
    · have h' : ¬ (d.length : Int) = n := by simpa using h
      simp [h']
    · have h' : (d.length : Int) = n := by simpa using h
      refine (specDiv_l0 d hl d.length 0 (by omega)).mono ?_
      rintro _ rfl
      rw [List.drop_zero, hg]
      simp only [h', decide_true, Bool.true_and]
  · refine Ep.up ?_
    simp only [spec_DivisorOk.j0]
    refine Ep.pos trivial (Ep.now ?_)
    have : gOk n es = false := by simpa using hg
    simp [this]
theorem implDiv (n : Int) (es : List E) (d : List Int) (hl : d.length ≤ 1048576) : Ep (fun k => impl_DivisorOk.f k n es d) (· = dOk n es d) := by
  simp only [impl_DivisorOk.f, dOk]
  refine Ep.bind0 (implGraph n es) (Ep.ite (fun hg => ?_) (fun hg => Ep.now ?_))
  · refine Ep.ite (fun h => ?_) (fun h => Ep.now ?_)
    · refine Ep.bind (allWithin_ok d (-60) 60 hl) ?_
      rintro _ rfl
      refine Ep.now ?_
      rw [hg]
      simp only [h, decide_true, Bool.true_and]
    · simp [h]
  · have : gOk n es = false := by simpa using hg
    simp [this]
/-- The valence, 0 where there is no such vertex. -/
def valG (n : Int) (es : List E) (v : Int) : Int := if 0 ≤ v ∧ v < n then val es v else 0
theorem val_drop {es : List E} {i : Nat} (h : i < es.length) (v : Int) : val (es.drop i) v = valE v es[i] + val (es.drop (i + 1)) v := by
  rw [List.drop_eq_getElem_cons h]
  exact sumE_cons _ _ _
theorem implVal_loop (v : Int) (es : List E) (hl : es.length ≤ 1048576) : ∀ (d i : Nat) (a : Int), i + d = es.length → 0 ≤ a → a ≤ i → Ep (fun k => impl_Valence.l0 k v a es (es.length : Int) (i : Int)) (· = a + val (es.drop i) v) := by
  intro d
  induction d with
  | zero =>
    intro i a hi h0 ha
    refine Ep.up ?_
    simp only [impl_Valence.l0]
    refine Ep.neg (by omega) (Ep.now ?_)
    rw [List.drop_of_length_le (by omega)]
    simp [val, sumE]
  | succ d ih =>
    intro i a hi h0 ha
    have hlt : i < es.length := by omega
    refine Ep.up ?_
    simp only [impl_Valence.l0]
    refine Ep.pos (by omega) (Ep.pos (by omega) (Ep.pos (by omega) ?_))
    rw [rdE_get hlt, wrap_succ (by omega), wrap_id (x := a + 1) (by omega) (by omega), val_drop hlt]
    refine Ep.ite (fun h => ?_) (fun h => Ep.ite (fun h2 => ?_) (fun h2 => ?_))
    · refine (ih (i + 1) (a + 1) (by omega) (by omega) (by omega)).mono ?_
      rintro _ rfl
      unfold valE
      rw [if_pos (.inl h)]
      omega
    · refine (ih (i + 1) (a + 1) (by omega) (by omega) (by omega)).mono ?_
      rintro _ rfl
      unfold valE
      rw [if_pos (.inr h2)]
      omega
    · refine (ih (i + 1) a (by omega) h0 (by omega)).mono ?_
      rintro _ rfl
      unfold valE
      rw [if_neg (by rintro (x | x); exact h x; exact h2 x)]
      omega
theorem implValence (n : Int) (es : List E) (v : Int) (hl : es.length ≤ 1048576) : Ep (fun k => impl_Valence.f k n es v) (· = valG n es v) := by
  simp only [impl_Valence.f, valG]
  refine Ep.ite (fun h => ?_) (fun h => ?_)
  · refine Ep.up ?_
    simp only [impl_Valence.j0]
    refine Ep.pos trivial (Ep.now ?_)
    rw [if_neg (by omega)]
  · refine Ep.up ?_
    simp only [impl_Valence.j0]
    refine Ep.ite (fun h2 => Ep.now ?_) (fun h2 => ?_)
    · have : v ≥ n := by simpa using h2
      rw [if_neg (by omega)]
    · have : ¬ v ≥ n := by simpa using h2
      refine (implVal_loop v es hl es.length 0 0 (by omega) (by omega) (by omega)).mono ?_
      rintro _ rfl
      rw [if_pos (by omega), List.drop_zero]
      omega
end Go.Proofs.Ytgobnfeahffnaab.Cf
end

section
namespace Go.Proofs.Ytgobnfeahffnaab.P
open Go.RowKit Go.Proofs.YtgobnfeahffnaabW.PrintWords Go.Proofs.YtgobnfeahffnaabW.PrintLast Go.Proofs.YtgobnfeahffnaabW.PrintMore
attribute [local go_sem] max2_int min2_int max_two min_two max_three min_three max_four min_four
set_option linter.unusedVariables false
set_option linter.unusedSimpArgs false
def spec_l10Unstable.l0 : Nat → Int → List Int → Int → Int → Int → List (S54) → Option (Int)
 | 0, _, _, _, _, _, _ => none
 | k + 1, x2, x9, x10, x11, x102000, x102001 => if x11 < x10 then (if 0 ≤ x11 then (if x11 < (x9.length : Int) then (if x11 = x2 then (spec_l10Unstable.l0 k x2 x9 x10 (wrap64 (x11 + 1)) x102000 x102001) else ((spec_Valence.f k x102000 x102001 x11).bind fun t103 => (if (rd x9 x11) ≥ t103 then (some x11) else (spec_l10Unstable.l0 k x2 x9 x10 (wrap64 (x11 + 1)) x102000 x102001)))) else (none)) else (none)) else (some (-1))
def spec_l10Unstable.f (k : Nat) (a0_0 : Int) (l0_1 : List (S54)) (l1 : List Int) (a2 : Int) : Option (Int) := spec_l10Unstable.l0 k a2 l1 (l1.length : Int) 0 a0_0 l0_1
theorem spec_l10Unstable.mono_l : ∀ k, (∀ y0 y1 y2 y3 y4 y5, LeO (spec_l10Unstable.l0 k y0 y1 y2 y3 y4 y5) (spec_l10Unstable.l0 (k + 1) y0 y1 y2 y3 y4 y5))
 | 0 => fun _ _ _ _ _ _ r h => by simp [spec_l10Unstable.l0] at h
 | k + 1 => by
  have ih0 := spec_l10Unstable.mono_l k
  ·intro y0 y1 y2 y3 y4 y5
   unfold spec_l10Unstable.l0
   exact zm19
theorem spec_l10Unstable.mono : ∀ a0 a1 a2 a3 k, LeO (spec_l10Unstable.f k a0 a1 a2 a3) (spec_l10Unstable.f (k + 1) a0 a1 a2 a3) := by
 intro a0 a1 a2 a3 k; have ih0 := spec_l10Unstable.mono_l k; unfold spec_l10Unstable.f; exact zm19
def impl_unstable.l0 : Nat → Int → List Int → Int → Int → Int → List (S54) → Option (Int)
 | 0, _, _, _, _, _, _ => none
 | k + 1, x2, x9, x10, x11, x102000, x102001 => if x11 < x10 then (if 0 ≤ x11 then (if x11 < (x9.length : Int) then (if x11 = x2 then (impl_unstable.l0 k x2 x9 x10 (wrap64 (x11 + 1)) x102000 x102001) else ((impl_Valence.f k x102000 x102001 x11).bind fun t103 => (if (rd x9 x11) ≥ t103 then (some x11) else (impl_unstable.l0 k x2 x9 x10 (wrap64 (x11 + 1)) x102000 x102001)))) else (none)) else (none)) else (some (-1))
def impl_unstable.f (k : Nat) (a0_0 : Int) (l0_1 : List (S54)) (l1 : List Int) (a2 : Int) : Option (Int) := impl_unstable.l0 k a2 l1 (l1.length : Int) 0 a0_0 l0_1
theorem impl_unstable.mono_l : ∀ k, (∀ y0 y1 y2 y3 y4 y5, LeO (impl_unstable.l0 k y0 y1 y2 y3 y4 y5) (impl_unstable.l0 (k + 1) y0 y1 y2 y3 y4 y5))
 | 0 => fun _ _ _ _ _ _ r h => by simp [impl_unstable.l0] at h
 | k + 1 => by
  have ih0 := impl_unstable.mono_l k
  ·intro y0 y1 y2 y3 y4 y5
   unfold impl_unstable.l0
   exact zm9
theorem impl_unstable.mono : ∀ a0 a1 a2 a3 k, LeO (impl_unstable.f k a0 a1 a2 a3) (impl_unstable.f (k + 1) a0 a1 a2 a3) := by
 intro a0 a1 a2 a3 k; have ih0 := impl_unstable.mono_l k; unfold impl_unstable.f; exact zm9
def spec_IsStable.f (k : Nat) (a0_0 : Int) (l0_1 : List (S54)) (l1 : List Int) (a2 : Int) : Option (Bool) := (spec_PileOk.f k a0_0 l0_1 l1 a2).bind fun t102 => (if t102 = true then ((spec_l10Unstable.f k a0_0 l0_1 l1 a2).bind fun t103 => (some (decide (t103 < 0)))) else (some false))
theorem spec_IsStable.mono : ∀ a0 a1 a2 a3 k, LeO (spec_IsStable.f k a0 a1 a2 a3) (spec_IsStable.f (k + 1) a0 a1 a2 a3) := by
 intro a0 a1 a2 a3 k; unfold spec_IsStable.f; repeat' first | (with_reducible apply spec_PileOk.mono) | (with_reducible apply spec_l10Unstable.mono) | (with_reducible exact LeO.refl _) | (with_reducible exact LeO.none _) | (with_reducible refine LeO.ite ?_ ?_) | (with_reducible refine LeO.bind ?_ (fun _ => ?_)) | apply spec_PileOk.mono | apply spec_l10Unstable.mono | exact LeO.none _ | refine LeO.ite ?_ ?_ | refine LeO.bind ?_ (fun _ => ?_)
def impl_IsStable.f (k : Nat) (a0_0 : Int) (l0_1 : List (S54)) (l1 : List Int) (a2 : Int) : Option (Bool) := (impl_PileOk.f k a0_0 l0_1 l1 a2).bind fun t102 => (if t102 = true then ((impl_unstable.f k a0_0 l0_1 l1 a2).bind fun t103 => (some (decide (t103 < 0)))) else (some false))
theorem impl_IsStable.mono : ∀ a0 a1 a2 a3 k, LeO (impl_IsStable.f k a0 a1 a2 a3) (impl_IsStable.f (k + 1) a0 a1 a2 a3) := by
 intro a0 a1 a2 a3 k; unfold impl_IsStable.f; repeat' first | (with_reducible apply impl_PileOk.mono) | (with_reducible apply impl_unstable.mono) | (with_reducible exact LeO.refl _) | (with_reducible exact LeO.none _) | (with_reducible refine LeO.ite ?_ ?_) | (with_reducible refine LeO.bind ?_ (fun _ => ?_)) | apply impl_PileOk.mono | apply impl_unstable.mono | exact LeO.none _ | refine LeO.ite ?_ ?_ | refine LeO.bind ?_ (fun _ => ?_)
end Go.Proofs.Ytgobnfeahffnaab.P
end

section
namespace Go.Proofs.Ytgobnfeahffnaab.Cf
set_option linter.unusedVariables false
set_option linter.unusedSimpArgs false
/-- The edges from v to a list of vertices. -/
def burnSum (es : List E) (b : List Int) (v : Int) : Int := (b.map (mult es v)).sum
inductive Burn (n : Nat) (es : List E) (d : Int → Int) (q : Int) : List Int → Prop
  | start : Burn n es d q [q]
  | step {b : List Int} {v : Int} : Burn n es d q b → 0 ≤ v → v < n → v ∉ b → d v < burnSum es b v → Burn n es d q (b ++ [v])
theorem Burn.ok {n : Nat} {es : List E} {d : Int → Int} {q : Int} {b : List Int} (hq : 0 ≤ q ∧ q < n) (h : Burn n es d q b) : b.Nodup ∧ (∀ v ∈ b, 0 ≤ v ∧ v < n) ∧ q ∈ b := by
  induction h with
  | start => exact ⟨by simp, fun v hv => by rw [List.mem_singleton.1 hv]; exact hq, by simp⟩
  | @step b v _ h0 h1 hv _ ih =>
    refine ⟨?_, fun x hx => ?_, List.mem_append_left _ ih.2.2⟩
    · rw [List.nodup_append]
      exact ⟨ih.1, by simp, fun a ha c hc => by
        rw [List.mem_singleton.1 hc]
        rintro rfl
        exact hv ha⟩
    · rcases List.mem_append.1 hx with hx | hx
      · exact ih.2.1 x hx
      · rw [List.mem_singleton.1 hx]
        exact ⟨h0, h1⟩
theorem Burn.len {n : Nat} {es : List E} {d : Int → Int} {q : Int} {b : List Int} (hq : 0 ≤ q ∧ q < n) (h : Burn n es d q b) : b.length ≤ n := nodup_len n b (h.ok hq).1 (h.ok hq).2.1
theorem sum_ind (x : Int) : ∀ (b : List Int), b.Nodup → (b.map (fun w => if x = w then (1 : Int) else 0)).sum = if x ∈ b then 1 else 0
  | [], _ => by simp
  | a :: r, h => by
    have ih := sum_ind x r (List.nodup_cons.1 h).2
    have hn := (List.nodup_cons.1 h).1
    simp only [List.map_cons, List.sum_cons, ih, List.mem_cons]
    by_cases e : x = a
    · subst e
      simp [hn]
    · simp [e]
theorem sum_zero (b : List Int) : (b.map (fun _ => (0 : Int))).sum = 0 := by
  induction b with
  | nil => rfl
  | cons a r ih => simp only [List.map_cons, List.sum_cons, ih]; rfl
theorem sum_add (b : List Int) (f g : Int → Int) : (b.map (fun w => f w + g w)).sum = (b.map f).sum + (b.map g).sum := by
  induction b with
  | nil => rfl
  | cons a r ih => simp only [List.map_cons, List.sum_cons, ih]; omega
/-- What does not burn takes as much as burns at its edges. -/
theorem burnSum_lap {n : Int} {es : List E} (hes : ∀ e ∈ es, EOk n e) {b : List Int} (hb : b.Nodup) {v : Int} (hv : v ∉ b) : burnSum es b v = lap es (ind (fun x => decide (x ∉ b))) v := by
  induction es with
  | nil =>
    unfold burnSum
    rw [lap_nil]
    exact sum_zero b
  | cons e r ih =>
    have ih := ih (fun x hx => hes x (List.mem_cons_of_mem _ hx))
    have hk := hes e List.mem_cons_self
    unfold EOk at hk
    have h1 : burnSum (e :: r) b v = (b.map (fun w => multE v w e)).sum + burnSum r b v := by
      unfold burnSum
      rw [← sum_add]
      congr 1
    rw [h1, ih, lap_cons]
    congr 1
    unfold lapE ind multE
    by_cases a : e.f0 = v
    · have c : ¬ e.f1 = v := by omega
      have key : (b.map (fun w => if (e.f0 = v ∧ e.f1 = w) ∨ (e.f0 = w ∧ e.f1 = v) then (1 : Int) else 0)).sum = if e.f1 ∈ b then 1 else 0 := by
        rw [← sum_ind e.f1 b hb]
        congr 1
        apply List.map_congr_left
        intro w _
        simp [a, c]
      rw [key, if_pos a, if_neg c, a]
      by_cases m : e.f1 ∈ b <;> simp [m, hv]
    · by_cases c : e.f1 = v
      · have key : (b.map (fun w => if (e.f0 = v ∧ e.f1 = w) ∨ (e.f0 = w ∧ e.f1 = v) then (1 : Int) else 0)).sum = if e.f0 ∈ b then 1 else 0 := by
          rw [← sum_ind e.f0 b hb]
          congr 1
          apply List.map_congr_left
          intro w _
          simp [a, c]
        rw [key, if_neg a, if_pos c, c]
        by_cases m : e.f0 ∈ b <;> simp [m, hv]
      · have key : (b.map (fun w => if (e.f0 = v ∧ e.f1 = w) ∨ (e.f0 = w ∧ e.f1 = v) then (1 : Int) else 0)).sum = 0 := by
          exact (congrArg List.sum (List.map_congr_left (g := fun _ => (0 : Int)) (fun w _ => by simp [a, c]))).trans (sum_zero b)
        rw [key, if_neg a, if_neg c]
        rfl
/-- A lesser set takes more. -/
theorem lap_ind_mono {es : List E} {S T : Int → Bool} {v : Int} (hv : S v = true) (hw : T v = true) (h : ∀ x, S x = true → T x = true) : lap es (ind T) v ≤ lap es (ind S) v := by
  apply sumE_le
  intro e _
  have h0 := h e.f0
  have h1 := h e.f1
  unfold lapE ind
  by_cases a : e.f0 = v
  · by_cases b : e.f1 = v
    · simp [a, b]
    · rw [if_pos a, if_pos a, if_neg b, if_neg b, a, hv, hw]
      cases hs : S e.f1 <;> cases ht : T e.f1 <;> simp_all
  · by_cases b : e.f1 = v
    · rw [if_neg a, if_neg a, if_pos b, if_pos b, b, hv, hw]
      cases hs : S e.f0 <;> cases ht : T e.f0 <;> simp_all
    · rw [if_neg a, if_neg a, if_neg b, if_neg b]
      exact Int.le_refl _
theorem Burn.meets {n : Nat} {es : List E} (hes : ∀ e ∈ es, EOk n e) {d : Int → Int} {q : Int} (hq : 0 ≤ q ∧ q < n) {b : List Int} (h : Burn n es d q b) {S : Int → Bool} (hS : S q = false) : (∀ v ∈ b, S v = false) ∨ ∃ v : Int, 0 ≤ v ∧ v < n ∧ S v = true ∧ d v < lap es (ind S) v := by
  induction h with
  | start => exact .inl (fun v hv => by rw [List.mem_singleton.1 hv]; exact hS)
  | @step b v hb h0 h1 hv hlt ih =>
    rcases ih with ih | ih
    · by_cases hx : S v = true
      · right
        refine ⟨v, h0, h1, hx, ?_⟩
        rw [burnSum_lap hes (hb.ok hq).1 hv] at hlt
        have := lap_ind_mono (es := es) (S := S) (T := fun x => decide (x ∉ b)) hx (by simpa using hv) (fun x hx => by
          simp only [decide_eq_true_eq]
          intro hm
          rw [ih x hm] at hx
          cases hx)
        omega
      · left
        intro x hm
        rcases List.mem_append.1 hm with hm | hm
        · exact ih x hm
        · rw [List.mem_singleton.1 hm]
          simpa using hx
    · exact .inr ih
/-- All burn: the divisor is reduced. -/
theorem Burn.red {n : Nat} {es : List E} (hes : ∀ e ∈ es, EOk n e) {d : Int → Int} {q : Int} (hq : 0 ≤ q ∧ q < n) {b : List Int} (h : Burn n es d q b) (hl : b.length = n) (hd : ∀ v : Int, 0 ≤ v → v < n → v ≠ q → 0 ≤ d v) : Red n es q d := by
  refine ⟨hd, fun S hS hx => ?_⟩
  rcases h.meets hes hq hS with hb | hb
  · exfalso
    obtain ⟨v, h0, h1, hv⟩ := hx
    have : v ∈ b := by
      apply Classical.byContradiction
      intro hn
      have := nodup_len n (v :: b) (List.nodup_cons.2 ⟨hn, (h.ok hq).1⟩) (fun x hx => by
        rcases List.mem_cons.1 hx with rfl | hx
        · exact ⟨h0, h1⟩
        · exact (h.ok hq).2.1 x hx)
      simp at this
      omega
    rw [hb v this] at hv
    cases hv
  · exact hb
theorem sumE_bd {es : List E} {f : E → Int} {S : Int} (h : ∀ e ∈ es, -S ≤ f e ∧ f e ≤ S) : -(es.length * S) ≤ sumE es f ∧ sumE es f ≤ es.length * S := by
  induction es with
  | nil => simp [sumE]
  | cons e r ih =>
    rw [sumE_cons]
    have := ih (fun x hx => h x (List.mem_cons_of_mem _ hx))
    have := h e List.mem_cons_self
    rw [List.length_cons, Int.natCast_succ, Int.add_mul, Int.one_mul]
    omega
theorem lap_bd {n : Int} {es : List E} (hes : ∀ e ∈ es, EOk n e) (hel : es.length ≤ 12) {s : Int → Int} {L S : Int} (hS : 0 ≤ S) (h : ∀ v, 0 ≤ v → v < n → L ≤ s v ∧ s v ≤ L + S) (w : Int) : -(12 * S) ≤ lap es s w ∧ lap es s w ≤ 12 * S := by
  have h1 := sumE_bd (es := es) (f := lapE s w) (S := S) (fun e he => by
    have hk := hes e he
    unfold EOk at hk
    have h0 := h e.f0 (by omega) (by omega)
    have h1 := h e.f1 (by omega) (by omega)
    unfold lapE
    by_cases a : e.f0 = w
    · rw [if_pos a, if_neg (by omega)]; omega
    · rw [if_neg a]
      by_cases b : e.f1 = w
      · rw [if_pos b]; omega
      · rw [if_neg b]; omega)
  have h2 : (es.length : Int) * S ≤ 12 * S := Int.mul_le_mul_of_nonneg_right (by omega) hS
  unfold lap
  omega
theorem sumN_le_const {n : Nat} {f : Nat → Int} {c : Int} (h : ∀ i, i < n → f i ≤ c) : sumN n f ≤ n * c := by
  rw [← sumN_const]
  exact sumN_le h
theorem sumN_nonneg {n : Nat} {f : Nat → Int} (h : ∀ i, i < n → 0 ≤ f i) : 0 ≤ sumN n f := by
  have := sumN_le (n := n) (f := fun _ => 0) (g := f) h
  rw [sumN_zero] at this
  exact this
theorem one_nat (v t : Int) (i : Nat) : one v t (i : Int) = if (i : Int) = v then t else 0 := rfl
theorem sumN_one' {n : Nat} {v : Int} (h0 : 0 ≤ v) (h1 : v < n) (t : Int) : sumN n (fun i => one v t (i : Int)) = t := by
  have := sumN_one (n := n) v.toNat (by omega) t
  refine (sumN_congr fun i _ => ?_).trans this
  rw [one_nat]
  have : ((i : Int) = v) ↔ i = v.toNat := by omega
  simp only [this]
theorem Legal.keeps1 {n : Nat} {es : List E} (hes : ∀ e ∈ es, EOk n e) {q : Int} {p s : Int → Int} (h : Legal n es q p s) : ∀ v : Int, 0 ≤ v → v < n → 0 < s v → 0 ≤ p v - lap es s v := by
  induction h with
  | zero => intro v _ _ h; exact absurd h (by simp)
  | @step s u hl h0 h1 hq hv ih =>
    intro w k0 k1 hs
    rw [lap_add]
    by_cases e : w = u
    · subst e
      rw [lap_one_self hes]
      omega
    · rw [lap_one_ne hes e]
      have := mult_nonneg es u w
      have := ih w k0 k1 (by
        have hs' : 0 < s w + one u 1 w := hs
        unfold one at hs'
        rw [if_neg e] at hs'
        omega)
      omega
theorem Legal.bound1 {n : Nat} {es : List E} (hes : ∀ e ∈ es, EOk n e) (hj : Joined n es) {q : Int} (hq : 0 ≤ q ∧ q < n) {p s : Int → Int} (h : Legal n es q p s) {c : Int} (hc : 0 ≤ c) (hpc : ∀ v : Int, 0 ≤ v → v < n → v ≠ q → p v ≤ c) : ∀ v : Int, 0 ≤ v → v < n → s v ≤ n * (n * c) := by
  refine script_bd hes hj hq hc (by rw [h.nonneg.2]; exact Int.le_refl _) ?_
  intro v h0 h1 hs
  have hne : v ≠ q := by rintro rfl; rw [h.nonneg.2] at hs; omega
  have := h.keeps1 hes v h0 h1 hs
  have := hpc v h0 h1 hne
  omega
theorem sq_le {n : Nat} (hn : n ≤ 6) {c : Int} (hc : 0 ≤ c) : (n : Int) * (n * c) ≤ 36 * c := by
  have h1 : (n : Int) * c ≤ 6 * c := Int.mul_le_mul_of_nonneg_right (by omega) hc
  have h2 : (n : Int) * (n * c) ≤ n * (6 * c) := Int.mul_le_mul_of_nonneg_left h1 (by omega)
  have h3 : (n : Int) * (6 * c) ≤ 6 * (6 * c) := Int.mul_le_mul_of_nonneg_right (by omega) (by omega)
  omega
/-- A legal script of no more than 36 c a vertex: all in all 216 c. -/
theorem Legal.small {n : Nat} (hn : n ≤ 6) {es : List E} (hes : ∀ e ∈ es, EOk n e) (hj : Joined n es) {q : Int} (hq : 0 ≤ q ∧ q < n) {p s : Int → Int} (h : Legal n es q p s) {c : Int} (hc : 0 ≤ c) (hpc : ∀ v : Int, 0 ≤ v → v < n → v ≠ q → p v ≤ c) :
    (∀ v : Int, 0 ≤ v → v < n → 0 ≤ s v ∧ s v ≤ 36 * c) ∧ sumN n (fun i => s (i : Int)) ≤ 216 * c := by
  have h36 := sq_le hn hc
  have hb : ∀ v : Int, 0 ≤ v → v < n → 0 ≤ s v ∧ s v ≤ 36 * c := fun v h0 h1 => by
    have := h.bound1 hes hj hq hc hpc v h0 h1
    have := h.nonneg.1 v
    omega
  refine ⟨hb, ?_⟩
  have h1 := sumN_le_const (n := n) (f := fun i => s (i : Int)) (c := 36 * c) (fun i hi => (hb i (by omega) (by omega)).2)
  have h2 : (n : Int) * (36 * c) ≤ 6 * (36 * c) := Int.mul_le_mul_of_nonneg_right (by omega) (by omega)
  omega
theorem sum_grow {n : Nat} {s : Int → Int} {v : Int} (h0 : 0 ≤ v) (h1 : v < n) (t : Int) : sumN n (fun i => (fun w => s w + one v t w) (i : Int)) = sumN n (fun i => s (i : Int)) + t := by
  rw [sumN_add n (fun i => s (i : Int)) (fun i => one v t (i : Int)), sumN_one' h0 h1]
/-- Borrowing is toppling of what is missing. -/
def dual (es : List E) (d : Int → Int) (v : Int) : Int := val es v - 1 - d v
structure Sets (n : Nat) (es : List E) (q : Int) (d u : Int → Int) : Prop where
  pos : ∀ w, 0 ≤ u w
  at_q : u q = 0
  keeps : ∀ v : Int, 0 ≤ v → v < n → v ≠ q → 0 ≤ d v - lap es u v
theorem Sets.zero {n : Nat} {es : List E} {q : Int} {d : Int → Int} (h : ∀ v : Int, 0 ≤ v → v < n → v ≠ q → 0 ≤ d v) : Sets n es q d (fun _ => 0) where
  pos := fun _ => Int.le_refl _
  at_q := rfl
  keeps := fun v h0 h1 h2 => by
    rw [lap_const (c := 0) (fun _ _ => ⟨rfl, rfl⟩)]
    have := h v h0 h1 h2
    omega
theorem Sets.small {n : Nat} (hn : n ≤ 6) {es : List E} (hes : ∀ e ∈ es, EOk n e) (hj : Joined n es) {q : Int} (hq : 0 ≤ q ∧ q < n) {d u : Int → Int} (h : Sets n es q d u) {c : Int} (hc : 0 ≤ c) (hpc : ∀ v : Int, 0 ≤ v → v < n → v ≠ q → d v ≤ c) :
    (∀ v : Int, 0 ≤ v → v < n → 0 ≤ u v ∧ u v ≤ 36 * c) ∧ sumN n (fun i => u (i : Int)) ≤ 216 * c := by
  have h36 := sq_le hn hc
  have hb : ∀ v : Int, 0 ≤ v → v < n → 0 ≤ u v ∧ u v ≤ 36 * c := fun v h0 h1 => by
    have := script_bd hes hj hq hc (s := u) (by rw [h.at_q]; exact Int.le_refl _) (fun v h0 h1 hs => by
      have hne : v ≠ q := by rintro rfl; rw [h.at_q] at hs; omega
      have := h.keeps v h0 h1 hne
      have := hpc v h0 h1 hne
      omega) v h0 h1
    have := h.pos v
    omega
  refine ⟨hb, ?_⟩
  have h1 := sumN_le_const (n := n) (f := fun i => u (i : Int)) (c := 36 * c) (fun i hi => (hb i (by omega) (by omega)).2)
  have h2 : (n : Int) * (36 * c) ≤ 6 * (36 * c) := Int.mul_le_mul_of_nonneg_right (by omega) (by omega)
  omega
def unb (b : List Int) : Int → Int := ind (fun x => decide (x ∉ b))
theorem unb_mem {b : List Int} {v : Int} (h : v ∈ b) : unb b v = 0 := by simp [unb, ind, h]
theorem unb_not {b : List Int} {v : Int} (h : v ∉ b) : unb b v = 1 := by simp [unb, ind, h]
theorem unb_nonneg (b : List Int) (v : Int) : 0 ≤ unb b v := by
  by_cases h : v ∈ b
  · rw [unb_mem h]; omega
  · rw [unb_not h]; omega
/-- What the fire does not reach, fires. -/
theorem Sets.step {n : Nat} {es : List E} (hes : ∀ e ∈ es, EOk n e) {q : Int} (hq : 0 ≤ q ∧ q < n) {d u x : Int → Int} (h : Sets n es q d u) (hx : ∀ v : Int, 0 ≤ v → v < n → x v = d v - lap es u v) {b : List Int} (hb : Burn n es x q b) (hc : ∀ v : Int, 0 ≤ v → v < n → v ∉ b → burnSum es b v ≤ x v) :
    Sets n es q d (fun w => u w + unb b w) where
  pos := fun w => by have := h.pos w; have := unb_nonneg b w; show 0 ≤ u w + unb b w; omega
  at_q := by show u q + unb b q = 0; rw [h.at_q, unb_mem (hb.ok hq).2.2]; rfl
  keeps := fun v h0 h1 h2 => by
    rw [lap_add]
    have := h.keeps v h0 h1 h2
    have e := hx v h0 h1
    by_cases hm : v ∈ b
    · have := lap_le_zero (es := es) (r := unb b) (v := v) (unb_nonneg b) (unb_mem hm)
      omega
    · have h3 := hc v h0 h1 hm
      rw [burnSum_lap hes (hb.ok hq).1 hm] at h3
      have : lap es (unb b) v = lap es (ind (fun x => decide (x ∉ b))) v := rfl
      omega
theorem unburnt_some {n : Nat} {b : List Int} (hl : b.length < n) : ∃ v : Int, 0 ≤ v ∧ v < n ∧ v ∉ b := by
  apply Classical.byContradiction
  intro hc
  have := len_nodup n b (fun i hi => by
    apply Classical.byContradiction
    intro hm
    exact hc ⟨i, by omega, by omega, hm⟩)
  omega
theorem sum_unb {n : Nat} {u : Int → Int} {b : List Int} (hex : ∃ v : Int, 0 ≤ v ∧ v < n ∧ v ∉ b) : sumN n (fun i => u (i : Int)) + 1 ≤ sumN n (fun i => (fun w => u w + unb b w) (i : Int)) := by
  obtain ⟨v, h0, h1, hm⟩ := hex
  rw [sumN_add n (fun i => u (i : Int)) (fun i => unb b (i : Int))]
  have := sumN_pos_term (n := n) (f := fun i => unb b (i : Int)) (fun i _ => unb_nonneg b _) v.toNat (by omega)
  have e : ((v.toNat : Nat) : Int) = v := by omega
  simp only [e, unb_not hm] at this
  omega
/-- The first vertex from i on that burns, or -1. -/
def nextB (es : List E) (d : Int → Int) (b : List Int) : Nat → Nat → Int
  | 0, _ => -1
  | k + 1, i => if (i : Int) ∉ b ∧ d i < burnSum es b i then i else nextB es d b k (i + 1)
theorem nextB_ok (es : List E) (d : Int → Int) (b : List Int) : ∀ (k i : Nat), (nextB es d b k i = -1 ∧ ∀ j : Nat, i ≤ j → j < i + k → (j : Int) ∉ b → burnSum es b j ≤ d j) ∨ ((i : Int) ≤ nextB es d b k i ∧ nextB es d b k i < i + k ∧ nextB es d b k i ∉ b ∧ d (nextB es d b k i) < burnSum es b (nextB es d b k i))
  | 0, i => .inl ⟨rfl, fun j h0 h1 => by omega⟩
  | k + 1, i => by
    unfold nextB
    by_cases h : (i : Int) ∉ b ∧ d i < burnSum es b i
    · rw [if_pos h]
      exact .inr ⟨by omega, by omega, h.1, h.2⟩
    · rw [if_neg h]
      rcases nextB_ok es d b k (i + 1) with ⟨h1, h2⟩ | ⟨h1, h2, h3⟩
      · refine .inl ⟨h1, fun j h3 h4 h5 => ?_⟩
        by_cases e : j = i
        · subst e
          apply Classical.byContradiction
          intro hc
          exact h ⟨h5, by omega⟩
        · exact h2 j (by omega) (by omega) h5
      · exact .inr ⟨by omega, by omega, h3⟩
def burnW (n : Nat) (es : List E) (d : Int → Int) : Nat → List Int → List Int
  | 0, b => b
  | k + 1, b => if nextB es d b n 0 < 0 then b else burnW n es d k (b ++ [nextB es d b n 0])
def burnF (n : Nat) (es : List E) (d : Int → Int) (q : Int) : List Int := burnW n es d n [q]
def BClosed (n : Nat) (es : List E) (d : Int → Int) (b : List Int) : Prop := ∀ v : Int, 0 ≤ v → v < n → v ∉ b → burnSum es b v ≤ d v
theorem nextB_closed {n : Nat} {es : List E} {d : Int → Int} {b : List Int} (h : nextB es d b n 0 < 0) : BClosed n es d b := by
  rcases nextB_ok es d b n 0 with ⟨_, h2⟩ | ⟨h1, _⟩
  · intro v h0 h1 hm
    have e : ((v.toNat : Nat) : Int) = v := by omega
    have := h2 v.toNat (by omega) (by omega) (by rw [e]; exact hm)
    rw [e] at this
    exact this
  · omega
theorem burnW_ok {n : Nat} {es : List E} {d : Int → Int} {q : Int} (hq : 0 ≤ q ∧ q < n) : ∀ (k : Nat) (b : List Int), n + 1 ≤ b.length + k → Burn n es d q b → Burn n es d q (burnW n es d k b) ∧ BClosed n es d (burnW n es d k b)
  | 0, b, hl, h => by have := h.len hq; omega
  | k + 1, b, hl, h => by
    unfold burnW
    by_cases hc : nextB es d b n 0 < 0
    · rw [if_pos hc]
      exact ⟨h, nextB_closed hc⟩
    · rw [if_neg hc]
      rcases nextB_ok es d b n 0 with ⟨h1, _⟩ | ⟨h1, h2, h3, h4⟩
      · omega
      · exact burnW_ok hq k _ (by simp; omega) (h.step (by omega) (by omega) h3 h4)
theorem burnF_ok {n : Nat} {es : List E} {d : Int → Int} {q : Int} (hq : 0 ≤ q ∧ q < n) : Burn n es d q (burnF n es d q) ∧ BClosed n es d (burnF n es d q) := burnW_ok hq n [q] (by simp; omega) .start
def RedTo (n : Nat) (es : List E) (q : Int) (d x s : Int → Int) : Prop := Red n es q x ∧ s q = 0 ∧ ∀ v : Int, 0 ≤ v → v < n → x v = d v - lap es s v
theorem RedTo.unique {n : Nat} {es : List E} (hes : ∀ e ∈ es, EOk n e) {q : Int} (hq : 0 ≤ q ∧ q < n) {d x s x' s' : Int → Int} (h : RedTo n es q d x s) (h' : RedTo n es q d x' s') : ∀ v : Int, 0 ≤ v → v < n → x v = x' v ∧ s v = s' v := by
  have hu := red_unique hes hq h.1 h'.1 (s := fun v => s' v - s v) (fun v h0 h1 => by
    rw [lap_sub, h.2.2 v h0 h1, h'.2.2 v h0 h1]
    omega)
  intro v h0 h1
  have h2 := hu.1 v h0 h1
  simp only [h.2.1, h'.2.1] at h2
  exact ⟨(hu.2 v h0 h1).symm, by omega⟩
/-- Off q a reduced divisor lies below the valence. -/
theorem Red.lt {n : Nat} {es : List E} (hes : ∀ e ∈ es, EOk n e) {q : Int} {d : Int → Int} (h : Red n es q d) {v : Int} (h0 : 0 ≤ v) (h1 : v < n) (hv : v ≠ q) : 0 ≤ d v ∧ d v < val es v := by
  refine ⟨h.1 v h0 h1 hv, ?_⟩
  obtain ⟨w, _, _, hw, hlt⟩ := h.2 (fun x => decide (x = v)) (by simpa using fun e => hv e.symm) ⟨v, h0, h1, by simp⟩
  obtain rfl : w = v := by simpa using hw
  have e : ind (fun x => decide (x = w)) = one w 1 := by
    funext x
    unfold ind one
    by_cases c : x = w <;> simp [c]
  rw [e, lap_one_self hes] at hlt
  omega
/-- .. and at q it makes up the degree. -/
theorem Red.at_q {n : Nat} (hn : n ≤ 6) {es : List E} (hes : ∀ e ∈ es, EOk n e) (hel : es.length ≤ 12) {q : Int} (hq : 0 ≤ q ∧ q < n) {d : Int → Int} (h : Red n es q d) : sumN n (fun i => d (i : Int)) - 72 ≤ d q ∧ d q ≤ sumN n (fun i => d (i : Int)) := by
  have hf : ∀ i : Nat, i < n → 0 ≤ d i - one q (d q) i ∧ d i - one q (d q) i ≤ 12 := by
    intro i hi
    unfold one
    by_cases e : (i : Int) = q
    · rw [if_pos e, e]; omega
    · rw [if_neg e]
      have := h.lt hes (v := i) (by omega) (by omega) e
      have := val_le es i
      omega
  have h1 : sumN n (fun i => d (i : Int)) = sumN n (fun i => d i - one q (d q) i) + d q := by
    have := sumN_add n (fun i => d i - one q (d q) i) (fun i => one q (d q) i)
    rw [sumN_one' hq.1 hq.2] at this
    rw [← this]
    apply sumN_congr
    intro i _
    omega
  have h2 := sumN_nonneg (n := n) (fun i hi => (hf i hi).1)
  have h3 := sumN_le_const (n := n) (fun i hi => (hf i hi).2)
  omega
end Go.Proofs.Ytgobnfeahffnaab.Cf
end

section
namespace Go.Proofs.Ytgobnfeahffnaab.Cf
set_option linter.unusedVariables false
set_option linter.unusedSimpArgs false
open Go.Proofs.YtgobnfeahffnaabW.PrintWords
theorem rd_set {x : List Int} {i : Int} (h0 : 0 ≤ i) (h1 : i < x.length) (y : Int) {w : Int} (hw : 0 ≤ w) : rd (x.set i.toNat y) w = if w = i then y else rd x w := by
  obtain ⟨a, rfl⟩ := Int.eq_ofNat_of_zero_le h0
  obtain ⟨b, rfl⟩ := Int.eq_ofNat_of_zero_le hw
  simp only [Int.ofNat_eq_natCast, Int.toNat_natCast, rd_nat, List.getD_eq_getElem?_getD] at *
  by_cases c : b = a
  · subst c
    rw [List.getElem?_set_self (by omega), if_pos rfl]
    rfl
  · rw [List.getElem?_set_ne (fun y => c y.symm), if_neg (by omega)]
/-- A list's numbers lie between -B and B. -/
def Bd (x : List Int) (B : Int) : Prop := ∀ w : Int, 0 ≤ w → w < x.length → -B ≤ rd x w ∧ rd x w ≤ B
theorem Bd.mono {x : List Int} {B B' : Int} (h : Bd x B) (hB : B ≤ B') : Bd x B' := fun w h0 h1 => by have := h w h0 h1; omega
theorem Bd.of60 {p : List Int} (h : ∀ x ∈ p, -60 ≤ x ∧ x ≤ 60) : Bd p 60 := fun w h0 h1 => by
  obtain ⟨i, rfl⟩ := Int.eq_ofNat_of_zero_le h0
  have hi : i < p.length := by omega
  rw [rd_get hi]
  exact h _ (List.getElem_mem hi)
/-- x is d, less what the script s takes over these edges. -/
def Less (es : List E) (d : List Int) (s : Int → Int) (x : List Int) : Prop := x.length = d.length ∧ ∀ w : Int, 0 ≤ w → w < d.length → rd x w = rd d w - lap es s w
theorem lap_snoc (es : List E) (e : E) (s : Int → Int) (w : Int) : lap (es ++ [e]) s w = lap es s w + lapE s w e := by
  induction es with
  | nil => simp [lap, sumE]
  | cons a r ih => rw [List.cons_append, lap_cons, ih, lap_cons]; omega
theorem lap_take {es : List E} {i : Nat} (h : i < es.length) (s : Int → Int) (w : Int) : lap (es.take (i + 1)) s w = lap (es.take i) s w + lapE s w es[i] := by
  rw [List.take_succ_eq_append_getElem h, lap_snoc]
/-- The list c tells s on the first n numbers. -/
def Rep (n : Nat) (c : List Int) (s : Int → Int) : Prop := c.length = n ∧ ∀ w : Int, 0 ≤ w → w < n → rd c w = s w
theorem Rep.ext {n : Nat} {c c' : List Int} {s : Int → Int} (h : Rep n c s) (h' : Rep n c' s) : c = c' := by
  apply List.ext_getElem (by rw [h.1, h'.1])
  intro i h1 h2
  have e := h.2 i (by omega) (by have := h.1; omega)
  have e' := h'.2 i (by omega) (by have := h.1; omega)
  rw [rd_get h1] at e
  rw [rd_get h2] at e'
  rw [e, e']
theorem Rep.congr {n : Nat} {c : List Int} {s t : Int → Int} (h : Rep n c s) (he : ∀ w : Int, 0 ≤ w → w < n → s w = t w) : Rep n c t := ⟨h.1, fun w h0 h1 => (h.2 w h0 h1).trans (he w h0 h1)⟩
theorem Rep.self {n : Nat} {c : List Int} (h : c.length = n) : Rep n c (rd c) := ⟨h, fun _ _ _ => rfl⟩
theorem Rep.set {n : Nat} {c : List Int} {s : Int → Int} (h : Rep n c s) {v : Int} (h0 : 0 ≤ v) (h1 : v < n) (y : Int) : Rep n (c.set v.toNat y) (fun w => if w = v then y else s w) := by
  refine ⟨by rw [List.length_set]; exact h.1, fun w w0 w1 => ?_⟩
  rw [rd_set h0 (by rw [h.1]; exact h1) y w0, h.2 w w0 w1]
theorem rd_replicate (n : Nat) (v : Int) : rd (List.replicate n (0 : Int)) v = 0 := by
  unfold rd
  rw [List.getD_eq_getElem?_getD]
  by_cases h : v.toNat < n
  · rw [List.getElem?_replicate_of_lt h]; rfl
  · rw [List.getElem?_eq_none (by simp; omega)]; rfl
theorem Rep.zero (n : Nat) : Rep n (List.replicate n (0 : Int)) (fun _ => 0) := ⟨by simp, fun w _ _ => rd_replicate n w⟩
/-- The list of a function's first n values. -/
def repL (n : Nat) (f : Int → Int) : List Int := (List.range n).map fun i : Nat => f (i : Int)
theorem repL_len (n : Nat) (f : Int → Int) : (repL n f).length = n := by simp [repL]
theorem repL_rep (n : Nat) (f : Int → Int) : Rep n (repL n f) f := by
  refine ⟨by simp [repL], fun w h0 h1 => ?_⟩
  obtain ⟨a, rfl⟩ := Int.eq_ofNat_of_zero_le h0
  rw [rd_get (by simp [repL]; omega)]
  simp [repL]
theorem Rep.eq {n : Nat} {c : List Int} {s : Int → Int} (h : Rep n c s) : c = repL n s := h.ext (repL_rep n s)
theorem Rep.bd {n : Nat} {c : List Int} {s : Int → Int} {B : Int} (h : Rep n c s) (hb : ∀ w : Int, 0 ≤ w → w < n → -B ≤ s w ∧ s w ≤ B) : Bd c B := fun w h0 h1 => by
  rw [h.2 w h0 (by have := h.1; omega)]
  exact hb w h0 (by have := h.1; omega)
theorem Less.rep {n : Nat} {es : List E} {d x : List Int} {s : Int → Int} (hd : d.length = n) (h : Less es d s x) : Rep n x (fun w => rd d w - lap es s w) := ⟨h.1.trans hd, fun w h0 h1 => h.2 w h0 (by omega)⟩
def Reduced (n : Nat) (es : List E) (q : Int) (d : List Int) (r : List Int × List Int) : Prop := r.1.length = n ∧ r.2.length = n ∧ RedTo n es q (rd d) (rd r.1) (rd r.2)
theorem Reduced.unique {n : Nat} {es : List E} (hes : ∀ e ∈ es, EOk n e) {q : Int} (hq : 0 ≤ q ∧ q < n) {d : List Int} {r r' : List Int × List Int} (h : Reduced n es q d r) (h' : Reduced n es q d r') : r = r' := by
  have hu := h.2.2.unique hes hq h'.2.2
  refine Prod.ext ?_ ?_
  · exact (Rep.self h.1).ext ((Rep.self h'.1).congr fun w h0 h1 => (hu w h0 h1).1.symm)
  · exact (Rep.self h.2.1).ext ((Rep.self h'.2.1).congr fun w h0 h1 => (hu w h0 h1).2.symm)
open Classical in
noncomputable def reduceS (n : Nat) (es : List E) (q : Int) (d : List Int) : List Int × List Int := if h : ∃ r, Reduced n es q d r then Classical.choose h else ([], [])
theorem Reduced.eq {n : Nat} {es : List E} (hes : ∀ e ∈ es, EOk n e) {q : Int} (hq : 0 ≤ q ∧ q < n) {d : List Int} {r : List Int × List Int} (h : Reduced n es q d r) : r = reduceS n es q d := by
  have he : ∃ r, Reduced n es q d r := ⟨r, h⟩
  unfold reduceS
  rw [dif_pos he]
  exact h.unique hes hq (Classical.choose_spec he)
/-- The sum of a list as a sum over numbers. -/
theorem sum_rd : ∀ (n : Nat) (c : List Int), c.length = n → c.sum = sumN n (fun i => rd c (i : Int))
  | 0, c, h => by
    obtain rfl := List.length_eq_zero_iff.1 h
    rfl
  | n + 1, c, h => by
    obtain ⟨a, x, rfl⟩ : ∃ a x, c = a ++ [x] := ⟨c.dropLast, c.getLast (by rintro rfl; simp at h), (List.dropLast_concat_getLast _).symm⟩
    simp only [List.length_append, List.length_cons, List.length_nil, Nat.zero_add, Nat.add_right_cancel_iff] at h
    simp only [sumN, List.sum_append, List.sum_cons, List.sum_nil]
    rw [sum_rd n a h]
    congr 1
    · apply sumN_congr
      intro i hi
      rw [rd_get (show i < a.length by omega), rd_get (show i < (a ++ [x]).length by simp; omega), List.getElem_append_left (by omega)]
    · subst h
      rw [rd_get (show a.length < (a ++ [x]).length by simp)]
      simp
end Go.Proofs.Ytgobnfeahffnaab.Cf
end

section
namespace Go.Proofs.Ytgobnfeahffnaab.Cf
set_option linter.unusedVariables false
set_option linter.unusedSimpArgs false
open Go.Proofs.YtgobnfeahffnaabW.PrintWords
theorem valG_in {n : Int} {es : List E} {v : Int} (h : 0 ≤ v ∧ v < n) : valG n es v = val es v := by
  unfold valG
  rw [if_pos h]
/-- The first vertex in debt, from one on; or -1. -/
def debtF (q : Int) (p : List Int) : Nat → Nat → Int
  | 0, _ => -1
  | d + 1, i => if (i : Int) = q then debtF q p d (i + 1) else if rd p i < 0 then i else debtF q p d (i + 1)
theorem debtF_ok (q : Int) (p : List Int) : ∀ (d i : Nat), (debtF q p d i = -1 ∧ ∀ j : Nat, i ≤ j → j < i + d → (j : Int) ≠ q → 0 ≤ rd p (j : Int)) ∨ ((i : Int) ≤ debtF q p d i ∧ debtF q p d i < i + d ∧ debtF q p d i ≠ q ∧ rd p (debtF q p d i) < 0)
  | 0, i => .inl ⟨rfl, fun j h0 h1 => by omega⟩
  | d + 1, i => by
    unfold debtF
    have ih := debtF_ok q p d (i + 1)
    by_cases h : (i : Int) = q
    · rw [if_pos h]
      rcases ih with ⟨h1, h2⟩ | ⟨h1, h2, h3⟩
      · refine .inl ⟨h1, fun j h3 h4 h5 => ?_⟩
        by_cases e : j = i
        · subst e; exact absurd h h5
        · exact h2 j (by omega) (by omega) h5
      · exact .inr ⟨by omega, by omega, h3⟩
    · rw [if_neg h]
      by_cases h2 : rd p i < 0
      · rw [if_pos h2]
        exact .inr ⟨by omega, by omega, h, h2⟩
      · rw [if_neg h2]
        rcases ih with ⟨h1, h3⟩ | ⟨h1, h3, h4⟩
        · refine .inl ⟨h1, fun j k1 k2 k3 => ?_⟩
          by_cases e : j = i
          · subst e; omega
          · exact h3 j (by omega) (by omega) k3
        · exact .inr ⟨by omega, by omega, h4⟩
theorem debt_neg {n : Nat} {q : Int} {p : List Int} (hp : p.length = n) (h : debtF q p p.length 0 < 0) : ∀ v : Int, 0 ≤ v → v < n → v ≠ q → 0 ≤ rd p v := by
  intro v h0 h1 hv
  rcases debtF_ok q p p.length 0 with ⟨_, h2⟩ | ⟨h2, _⟩
  · have := h2 v.toNat (by omega) (by omega) (by omega)
    have e : ((v.toNat : Nat) : Int) = v := by omega
    rw [e] at this
    exact this
  · omega
theorem debt_pos {n : Nat} {q : Int} {p : List Int} (hp : p.length = n) (h : ¬ debtF q p p.length 0 < 0) : 0 ≤ debtF q p p.length 0 ∧ debtF q p p.length 0 < n ∧ debtF q p p.length 0 ≠ q ∧ rd p (debtF q p p.length 0) < 0 := by
  rcases debtF_ok q p p.length 0 with ⟨h1, _⟩ | ⟨h1, h2, h3⟩
  · omega
  · exact ⟨by omega, by omega, h3⟩
/-- The edges to what burns, counted over all vertices. -/
theorem sum_pick (f : Int → Int) (n : Nat) : ∀ (b : List Int), b.Nodup → (∀ v ∈ b, 0 ≤ v ∧ v < n) → sumN n (fun w => if (w : Int) ∈ b then f w else 0) = (b.map f).sum
  | [], _, _ => by simp [sumN_zero]
  | a :: r, hb, hr => by
    have ha := hr a List.mem_cons_self
    rw [List.map_cons, List.sum_cons, ← sum_pick f n r (List.nodup_cons.1 hb).2 (fun v hv => hr v (List.mem_cons_of_mem _ hv)), ← sumN_one (n := n) a.toNat (by omega) (f a), ← sumN_add]
    apply sumN_congr
    intro i hi
    by_cases e : i = a.toNat
    · have e' : (i : Int) = a := by omega
      rw [if_pos e, e', if_pos List.mem_cons_self, if_neg (List.nodup_cons.1 hb).1]
      omega
    · have e' : (i : Int) ≠ a := by omega
      rw [if_neg e]
      simp [e']
end Go.Proofs.Ytgobnfeahffnaab.Cf
end

section
namespace Go.Proofs.Ytgobnfeahffnaab.Cf
set_option linter.unusedVariables false
set_option linter.unusedSimpArgs false
open Go.RowKit Go.Proofs.YtgobnfeahffnaabW.PrintWords Go.Proofs.Ytgobnfeahffnaab.P
theorem specFire_l0 (n : Nat) (es : List E) (hes : ∀ e ∈ es, EOk n e) (hel : es.length ≤ 12) (d s : List Int) (hd : d.length = n) (hs : s.length = n) {B K : Int} (hK : 0 ≤ K ∧ 0 ≤ B) (hbd : Bd d B) (hbs : Bd s K) (hB : B + 24 * K ≤ 4611686018427387904) :
    ∀ (k i : Nat) (x : List Int), i + k = es.length → Less (es.take i) d (rd s) x → Bd x (B + 2 * K * i) → Ep (fun r => spec_l04Fire.l0 r s x es (es.length : Int) (i : Int)) (fun r => Less es d (rd s) r ∧ Bd r (B + 24 * K)) := by
  intro k
  induction k with
  | zero =>
    intro i x hi hx hb
    obtain rfl : i = es.length := by omega
    refine Ep.up ?_
    simp only [spec_l04Fire.l0]
    refine Ep.neg (by omega) (Ep.now ⟨?_, hb.mono ?_⟩)
    · rw [List.take_length] at hx
      exact hx
    · have : 2 * K * (es.length : Int) ≤ 2 * K * 12 := Int.mul_le_mul_of_nonneg_left (by omega) (by omega)
      omega
  | succ k ih =>
    intro i x hi hx hb
    have hlt : i < es.length := by omega
    have he := hes _ (List.getElem_mem hlt)
    unfold EOk at he
    have hxl : x.length = n := hx.1.trans hd
    have hi12 : 2 * K * (i : Int) ≤ 2 * K * 12 := Int.mul_le_mul_of_nonneg_left (by omega) (by omega)
    have ba := hb es[i].f0 (by omega) (by omega)
    have bb := hb es[i].f1 (by omega) (by omega)
    have sa := hbs es[i].f0 (by omega) (by omega)
    have sb := hbs es[i].f1 (by omega) (by omega)
    refine Ep.up ?_
    simp only [spec_l04Fire.l0]
    refine Ep.pos (by omega) (Ep.pos (by omega) (Ep.pos (by omega) ?_))
    rw [rdE_get hlt, wrap_succ (by omega)]
    refine Ep.pos (by omega) (Ep.pos (by omega) (Ep.pos (by omega) (Ep.pos (by omega) (Ep.pos (by omega) (Ep.bind0 rfl (Ep.pos (by omega) ?_))))))
    rw [rd_set (x := x) (by omega) (by omega) _ (w := es[i].f1) (by omega), if_neg (by omega), wrap_id (x := rd x es[i].f0 - rd s es[i].f0) (by omega) (by omega), wrap_id (x := rd x es[i].f0 - rd s es[i].f0 + rd s es[i].f1) (by omega) (by omega), wrap_id (x := rd x es[i].f1 - rd s es[i].f1) (by omega) (by omega), wrap_id (x := rd x es[i].f1 - rd s es[i].f1 + rd s es[i].f0) (by omega) (by omega)]
    have key : ∀ w : Int, 0 ≤ w → w < n → rd ((x.set es[i].f0.toNat (rd x es[i].f0 - rd s es[i].f0 + rd s es[i].f1)).set es[i].f1.toNat (rd x es[i].f1 - rd s es[i].f1 + rd s es[i].f0)) w = rd x w - lapE (rd s) w es[i] := by
      intro w h0 h1
      rw [rd_set (by omega) (by rw [List.length_set]; omega) _ h0, rd_set (by omega) (by omega) _ h0]
      unfold lapE
      by_cases c1 : w = es[i].f1
      · rw [if_pos c1, if_neg (by omega), if_pos c1.symm, c1]
        omega
      · rw [if_neg c1]
        by_cases c0 : w = es[i].f0
        · rw [if_pos c0, if_pos c0.symm, if_neg (by omega), c0]
          omega
        · rw [if_neg c0, if_neg (by omega), if_neg (by omega)]
          omega
    refine ih (i + 1) _ (by omega) ⟨by simp [hx.1], ?_⟩ ?_
    · intro w h0 h1
      rw [key w h0 (by omega), hx.2 w h0 h1, lap_take hlt]
      omega
    · intro w h0 h1
      have h1' : w < n := by simpa [hxl] using h1
      rw [key w h0 h1']
      have := hb w h0 (by omega)
      have e : 2 * K * ((i + 1 : Nat) : Int) = 2 * K * (i : Int) + 2 * K := by
        rw [Int.natCast_add, Int.mul_add]
        omega
      rw [e]
      unfold lapE
      split <;> split <;> omega
theorem specFire (n : Nat) (hn : n ≤ 6) (es : List E) (hes : ∀ e ∈ es, EOk n e) (hel : es.length ≤ 12) (d s : List Int) (hd : d.length = n) (hs : s.length = n) {B K : Int} (hK : 0 ≤ K ∧ 0 ≤ B) (hbd : Bd d B) (hbs : Bd s K) (hB : B + 24 * K ≤ 4611686018427387904) :
    Ep (fun r => spec_l04Fire.f r (n : Int) es d s) (fun r => Less es d (rd s) r ∧ Bd r (B + 24 * K)) := by
  simp only [spec_l04Fire.f]
  refine Ep.bind0 rfl (Ep.pos (by simp; omega) ?_)
  refine specFire_l0 n es hes hel d s hd hs hK hbd hbs hB es.length 0 _ (by omega) ⟨rfl, fun w _ _ => ?_⟩ ?_
  · simp [lap, sumE]
  · simpa using hbd
theorem implFire_l0 (n : Nat) (es : List E) (hes : ∀ e ∈ es, EOk n e) (hel : es.length ≤ 12) (d : List Int) (v t : Int) (hd : d.length = n) (hv : 0 ≤ v ∧ v < n) {B K : Int} (hK : 0 ≤ K ∧ 0 ≤ B) (hbd : Bd d B) (ht : -K ≤ t ∧ t ≤ K) (hB : B + 12 * K ≤ 4611686018427387904) :
    ∀ (k i : Nat) (x : List Int), i + k = es.length → Less (es.take i) d (one v t) x → Bd x (B + K * i) → Ep (fun r => impl_fire.l0 r x v t es (es.length : Int) (i : Int)) (fun r => Less es d (one v t) r ∧ Bd r (B + 12 * K)) := by
  intro k
  induction k with
  | zero =>
    intro i x hi hx hb
    obtain rfl : i = es.length := by omega
    refine Ep.up ?_
    simp only [impl_fire.l0]
    refine Ep.neg (by omega) (Ep.now ⟨?_, hb.mono ?_⟩)
    · rw [List.take_length] at hx
      exact hx
    · have : K * (es.length : Int) ≤ K * 12 := Int.mul_le_mul_of_nonneg_left (by omega) (by omega)
      omega
  | succ k ih =>
    intro i x hi hx hb
    have hlt : i < es.length := by omega
    have he := hes _ (List.getElem_mem hlt)
    unfold EOk at he
    have hxl : x.length = n := hx.1.trans hd
    have hi12 : K * (i : Int) ≤ K * 12 := Int.mul_le_mul_of_nonneg_left (by omega) (by omega)
    have ba := hb es[i].f0 (by omega) (by omega)
    have bb := hb es[i].f1 (by omega) (by omega)
    have e1 : K * ((i + 1 : Nat) : Int) = K * (i : Int) + K := by
      rw [Int.natCast_add, Int.mul_add]
      omega
    have fin : ∀ x' : List Int, x'.length = x.length → (∀ w : Int, 0 ≤ w → w < n → rd x' w = rd x w - lapE (one v t) w es[i]) → Ep (fun r => impl_fire.l0 r x' v t es (es.length : Int) ((i + 1 : Nat) : Int)) (fun r => Less es d (one v t) r ∧ Bd r (B + 12 * K)) := by
      intro x' hl' key
      refine ih (i + 1) _ (by omega) ⟨by rw [hl']; exact hx.1, ?_⟩ ?_
      · intro w h0 h1
        rw [key w h0 (by omega), hx.2 w h0 h1, lap_take hlt]
        omega
      · intro w h0 h1
        have h1' : w < n := by omega
        rw [key w h0 h1', e1]
        have := hb w h0 (by omega)
        unfold lapE one
        (repeat' split) <;> omega
    refine Ep.up ?_
    simp only [impl_fire.l0]
    refine Ep.pos (by omega) (Ep.pos (by omega) (Ep.pos (by omega) ?_))
    rw [rdE_get hlt, wrap_succ (by omega)]
    refine Ep.ite (fun c => ?_) (fun c => Ep.ite (fun c2 => ?_) (fun c2 => ?_))
    · subst c
      refine Ep.pos (by omega) (Ep.pos (by omega) (Ep.bind0 rfl (Ep.pos (by omega) (Ep.pos (by omega) ?_))))
      rw [rd_set (x := x) (by omega) (by omega) _ (w := es[i].f1) (by omega), if_neg (by omega), wrap_id (x := rd x es[i].f0 - t) (by omega) (by omega), wrap_id (x := rd x es[i].f1 + t) (by omega) (by omega)]
      refine fin _ (by simp) ?_
      intro w h0 h1
      rw [rd_set (by omega) (by rw [List.length_set]; omega) _ h0, rd_set (by omega) (by omega) _ h0]
      unfold lapE one
      by_cases c1 : w = es[i].f1
      · subst c1; (repeat' split) <;> omega
      · by_cases c0 : w = es[i].f0
        · subst c0; (repeat' split) <;> omega
        · (repeat' split) <;> omega
    · subst c2
      refine Ep.pos (by omega) (Ep.pos (by omega) (Ep.bind0 rfl (Ep.pos (by omega) (Ep.pos (by omega) ?_))))
      rw [rd_set (x := x) (by omega) (by omega) _ (w := es[i].f0) (by omega), if_neg (by omega), wrap_id (x := rd x es[i].f1 - t) (by omega) (by omega), wrap_id (x := rd x es[i].f0 + t) (by omega) (by omega)]
      refine fin _ (by simp) ?_
      intro w h0 h1
      rw [rd_set (by omega) (by rw [List.length_set]; omega) _ h0, rd_set (by omega) (by omega) _ h0]
      unfold lapE one
      by_cases c1 : w = es[i].f1
      · subst c1; (repeat' split) <;> omega
      · by_cases c0 : w = es[i].f0
        · subst c0; (repeat' split) <;> omega
        · (repeat' split) <;> omega
    · refine fin x rfl ?_
      intro w h0 h1
      unfold lapE one
      (repeat' split) <;> omega
theorem implFire (n : Nat) (es : List E) (hes : ∀ e ∈ es, EOk n e) (hel : es.length ≤ 12) (d : List Int) (v t : Int) (hd : d.length = n) (hv : 0 ≤ v ∧ v < n) {B K : Int} (hK : 0 ≤ K ∧ 0 ≤ B) (hbd : Bd d B) (ht : -K ≤ t ∧ t ≤ K) (hB : B + 12 * K ≤ 4611686018427387904) :
    Ep (fun r => impl_fire.f r (n : Int) es d v t) (fun r => Less es d (one v t) r ∧ Bd r (B + 12 * K)) := by
  simp only [impl_fire.f]
  refine implFire_l0 n es hes hel d v t hd hv hK hbd ht hB es.length 0 _ (by omega) ⟨rfl, fun w _ _ => ?_⟩ ?_
  · simp [lap, sumE]
  · simpa using hbd
theorem copy_eq (l : List Int) (h : l.length ≤ 1048576) : impl_copyInts.f l = some l := by
  unfold impl_copyInts.f
  rw [if_pos (by simp; omega)]
  rfl
end Go.Proofs.Ytgobnfeahffnaab.Cf
end

section
namespace Go.Proofs.Ytgobnfeahffnaab.P
open Go.RowKit Go.Proofs.YtgobnfeahffnaabW.PrintWords Go.Proofs.YtgobnfeahffnaabW.PrintLast Go.Proofs.YtgobnfeahffnaabW.PrintMore
attribute [local go_sem] max2_int min2_int max_two min_two max_three min_three max_four min_four
set_option linter.unusedVariables false
set_option linter.unusedSimpArgs false
def spec_l10Topple.f (k : Nat) (a0_0 : Int) (l0_1 : List (S54)) (l1 : List Int) (a2 : Int) (a3 : Int) : Option (List Int) := if 0 ≤ a0_0 then (if (a0_0 : Int).toNat ≤ 35184372088832 then ((some (List.replicate (a0_0 : Int).toNat 0 : List Int)).bind fun y102 => (if 0 ≤ a3 then (if a3 < (y102.length : Int) then ((spec_l04Fire.f k a0_0 l0_1 l1 (y102.set (a3 : Int).toNat 1)).bind fun t106 => (if 0 ≤ a2 then (if a2 < (t106.length : Int) then (some (t106.set (a2 : Int).toNat 0)) else (none)) else (none))) else (none)) else (none))) else (none)) else (none)
theorem spec_l10Topple.mono : ∀ a0 a1 a2 a3 a4 k, LeO (spec_l10Topple.f k a0 a1 a2 a3 a4) (spec_l10Topple.f (k + 1) a0 a1 a2 a3 a4) := by
 intro a0 a1 a2 a3 a4 k; unfold spec_l10Topple.f; repeat' first | (with_reducible apply spec_l04Fire.mono) | (with_reducible exact LeO.refl _) | (with_reducible exact LeO.none _) | (with_reducible refine LeO.ite ?_ ?_) | (with_reducible refine LeO.bind ?_ (fun _ => ?_)) | apply spec_l04Fire.mono | exact LeO.none _ | refine LeO.ite ?_ ?_ | refine LeO.bind ?_ (fun _ => ?_)
def spec_l10Settle.l0 : Nat → Int → List Int → List Int → Int → List (S54) → Option (List Int × List Int)
 | 0, _, _, _, _, _ => none
 | k + 1, x2, x8, x9, x102000, x102001 => (spec_l10Unstable.f k x102000 x102001 x8 x2).bind fun t111 => (if t111 < 0 then (some (x8, x9)) else ((spec_l10Topple.f k x102000 x102001 x8 x2 t111).bind fun t112 => (if 0 ≤ t111 then (if t111 < (x9.length : Int) then (spec_l10Settle.l0 k x2 t112 (x9.set (t111 : Int).toNat (wrap64 ((rd x9 t111) + 1))) x102000 x102001) else (none)) else (none))))
def spec_l10Settle.f (k : Nat) (a0_0 : Int) (l0_1 : List (S54)) (l1 : List Int) (a2 : Int) : Option (List Int × List Int) := (some (([] : List Int) : List Int)).bind fun y102 => (if y102.length + l1.length < 17592186044416 then (if 0 ≤ a0_0 then (if (a0_0 : Int).toNat ≤ 35184372088832 then (spec_l10Settle.l0 k a2 (y102 ++ l1) (List.replicate (a0_0 : Int).toNat 0) a0_0 l0_1) else (none)) else (none)) else (none))
theorem spec_l10Settle.mono_l : ∀ k, (∀ y0 y1 y2 y3 y4, LeO (spec_l10Settle.l0 k y0 y1 y2 y3 y4) (spec_l10Settle.l0 (k + 1) y0 y1 y2 y3 y4))
 | 0 => fun _ _ _ _ _ r h => by simp [spec_l10Settle.l0] at h
 | k + 1 => by
  have ih0 := spec_l10Settle.mono_l k
  ·intro y0 y1 y2 y3 y4
   unfold spec_l10Settle.l0
   exact zm16
theorem spec_l10Settle.mono : ∀ a0 a1 a2 a3 k, LeO (spec_l10Settle.f k a0 a1 a2 a3) (spec_l10Settle.f (k + 1) a0 a1 a2 a3) := by
 intro a0 a1 a2 a3 k; have ih0 := spec_l10Settle.mono_l k; unfold spec_l10Settle.f; exact zm16
def impl_stabilize.l0 : Nat → Int → List Int → List Int → Int → Int → List (S54) → Option (List Int × List Int)
 | 0, _, _, _, _, _, _ => none
 | k + 1, x2, x8, x9, x10, x102000, x102001 => if x10 ≥ 0 then (if 0 ≤ x10 then (if x10 < (x8.length : Int) then ((impl_Valence.f k x102000 x102001 x10).bind fun t110 => (if t110 = 0 then (none) else ((impl_fire.f k x102000 x102001 x8 x10 (wrap64 (Int.tdiv (rd x8 x10) t110))).bind fun t111 => (if x10 < (x9.length : Int) then ((impl_unstable.f k x102000 x102001 t111 x2).bind fun t114 => (impl_stabilize.l0 k x2 t111 (x9.set (x10 : Int).toNat (wrap64 ((rd x9 x10) + (wrap64 (Int.tdiv (rd x8 x10) t110))))) t114 x102000 x102001)) else (none))))) else (none)) else (none)) else (if 0 ≤ x2 then (if x2 < (x8.length : Int) then (some ((x8.set (x2 : Int).toNat 0), x9)) else (none)) else (none))
def impl_stabilize.f (k : Nat) (a0_0 : Int) (l0_1 : List (S54)) (l1 : List Int) (a2 : Int) : Option (List Int × List Int) := (impl_copyInts.f l1).bind fun t102 => (if 0 ≤ a0_0 then (if (a0_0 : Int).toNat ≤ 35184372088832 then ((impl_unstable.f k a0_0 l0_1 t102 a2).bind fun t108 => (impl_stabilize.l0 k a2 t102 (List.replicate (a0_0 : Int).toNat 0) t108 a0_0 l0_1)) else (none)) else (none))
theorem impl_stabilize.mono_l : ∀ k, (∀ y0 y1 y2 y3 y4 y5, LeO (impl_stabilize.l0 k y0 y1 y2 y3 y4 y5) (impl_stabilize.l0 (k + 1) y0 y1 y2 y3 y4 y5))
 | 0 => fun _ _ _ _ _ _ r h => by simp [impl_stabilize.l0] at h
 | k + 1 => by
  have ih0 := impl_stabilize.mono_l k
  ·intro y0 y1 y2 y3 y4 y5
   unfold impl_stabilize.l0
   exact zm15
theorem impl_stabilize.mono : ∀ a0 a1 a2 a3 k, LeO (impl_stabilize.f k a0 a1 a2 a3) (impl_stabilize.f (k + 1) a0 a1 a2 a3) := by
 intro a0 a1 a2 a3 k; have ih0 := impl_stabilize.mono_l k; unfold impl_stabilize.f; exact zm15
end Go.Proofs.Ytgobnfeahffnaab.P
end

section
namespace Go.Proofs.Ytgobnfeahffnaab.Cf
set_option linter.unusedVariables false
set_option linter.unusedSimpArgs false
open Go.RowKit Go.Proofs.YtgobnfeahffnaabW.PrintWords Go.Proofs.Ytgobnfeahffnaab.P
theorem Less.congr {n : Nat} {es : List E} (hes : ∀ e ∈ es, EOk n e) {d x : List Int} {s t : Int → Int} (h : Less es d s x) (he : ∀ w : Int, 0 ≤ w → w < n → s w = t w) : Less es d t x :=
  ⟨h.1, fun w h0 h1 => by rw [h.2 w h0 h1, lap_congr hes he]⟩
/-- Where the graph is valid. -/
structure Gr (n : Nat) (es : List E) (q : Int) : Prop where
  n1 : 1 ≤ n
  n6 : n ≤ 6
  hes : ∀ e ∈ es, EOk n e
  hel : es.length ≤ 12
  hj : Joined n es
  hq : 0 ≤ q ∧ q < n
theorem Gr.of {n : Nat} {es : List E} {q : Int} (h : GOk (n : Int) es) (hq : 0 ≤ q ∧ q < n) : Gr n es q := by
  obtain ⟨h1, _, h3⟩ := h
  unfold EsOk at h1
  exact ⟨by omega, by omega, h1.2.2.2, h1.2.2.1, h3, hq⟩
end Go.Proofs.Ytgobnfeahffnaab.Cf
end

section
namespace Go.Proofs.Ytgobnfeahffnaab.Cf
set_option linter.unusedVariables false
set_option linter.unusedSimpArgs false
open Go.RowKit Go.Proofs.YtgobnfeahffnaabW.PrintWords Go.Proofs.YtgobnfeahffnaabW.PrintMore Go.Proofs.Ytgobnfeahffnaab.P
theorem multE_alt {n : Int} {e : E} (h : EOk n e) {a b : Int} (hab : a ≠ b) : multE a b e = if e.f0 = mn a b ∧ e.f1 = mx a b then 1 else 0 := by
  unfold EOk at h
  unfold multE mn mx
  by_cases c : b < a
  · rw [if_pos c, if_neg (show ¬ a < b by omega)]
    by_cases x : e.f0 = b ∧ e.f1 = a
    · rw [if_pos (.inr x), if_pos x]
    · rw [if_neg (by omega), if_neg x]
  · rw [if_neg c, if_pos (show a < b by omega)]
    by_cases x : e.f0 = a ∧ e.f1 = b
    · rw [if_pos (.inl x), if_pos x]
    · rw [if_neg (by omega), if_neg x]
theorem mult_self {n : Int} {es : List E} (hes : ∀ e ∈ es, EOk n e) (a : Int) : mult es a a = 0 := by
  apply sumE_zero
  intro e he
  have h := hes e he
  unfold EOk at h
  unfold multE
  rw [if_neg (by omega)]
theorem mult_drop {es : List E} {i : Nat} (h : i < es.length) (a b : Int) : mult (es.drop i) a b = multE a b es[i] + mult (es.drop (i + 1)) a b := by
  rw [List.drop_eq_getElem_cons h]
  exact sumE_cons _ _ _
theorem specMult_l0 (n : Int) (es : List E) (hes : ∀ e ∈ es, EOk n e) (hel : es.length ≤ 12) (a b : Int) (hab : a ≠ b) : ∀ (d i : Nat) (c : Int), i + d = es.length → 0 ≤ c → c ≤ i → Ep (fun k => spec_Multiplicity.l0 k a b c es (es.length : Int) (i : Int)) (· = c + mult (es.drop i) a b) := by
  intro d
  induction d with
  | zero =>
    intro i c hi h0 h1
    refine Ep.up ?_
    simp only [spec_Multiplicity.l0]
    refine Ep.neg (by omega) (Ep.now ?_)
    rw [List.drop_of_length_le (by omega)]
    simp [mult, sumE]
  | succ d ih =>
    intro i c hi h0 h1
    have hlt : i < es.length := by omega
    have hk := hes _ (List.getElem_mem hlt)
    refine Ep.up ?_
    simp only [spec_Multiplicity.l0]
    refine Ep.pos (by omega) (Ep.pos (by omega) (Ep.pos (by omega) ?_))
    rw [rdE_get hlt, wrap_succ (by omega), wrap_id (x := c + 1) (by omega) (by omega), mult_drop hlt, multE_alt hk hab]
    refine Ep.ite (fun h => Ep.ite (fun h2 => ?_) (fun h2 => ?_)) (fun h => ?_)
    · rw [if_pos ⟨h, h2⟩]
      refine (ih (i + 1) (c + 1) (by omega) (by omega) (by omega)).mono ?_
      rintro _ rfl
      omega
    · rw [if_neg (fun x => h2 x.2)]
      refine (ih (i + 1) c (by omega) (by omega) (by omega)).mono ?_
      rintro _ rfl
      omega
    · rw [if_neg (fun x => h x.1)]
      refine (ih (i + 1) c (by omega) (by omega) (by omega)).mono ?_
      rintro _ rfl
      omega
theorem l02Vert_eq (n : Int) (es : List E) (v : Int) : spec_l02Vert.f n es v = some (decide (0 ≤ v ∧ v < n)) := by
  unfold spec_l02Vert.f
  by_cases h : v ≥ 0
  · rw [if_pos h]
    have : (0 ≤ v ∧ v < n) ↔ v < n := ⟨fun x => x.2, fun x => ⟨h, x⟩⟩
    simp only [this]
  · rw [if_neg h]
    have : ¬ (0 ≤ v ∧ v < n) := fun x => h x.1
    simp only [this, decide_false]
theorem specMult (n : Int) (es : List E) (hes : ∀ e ∈ es, EOk n e) (hel : es.length ≤ 12) (a b : Int) (ha : 0 ≤ a ∧ a < n) (hb : 0 ≤ b ∧ b < n) : Ep (fun k => spec_Multiplicity.f k n es a b) (· = mult es a b) := by
  simp only [spec_Multiplicity.f]
  refine Ep.bind0 (l02Vert_eq _ _ _) (Ep.pos (by simpa using ha) (Ep.bind0 (l02Vert_eq _ _ _) (Ep.pos (by simpa using hb) ?_)))
  refine Ep.up ?_
  simp only [spec_Multiplicity.j0]
  refine Ep.ite (fun h => Ep.now ?_) (fun h => ?_)
  · have : a = b := by simpa using h
    rw [this, mult_self hes]
  · have hab : a ≠ b := by simpa using h
    refine (specMult_l0 n es hes hel a b hab es.length 0 0 (by omega) (by omega) (by omega)).mono ?_
    rintro _ rfl
    simp
theorem implMult_l0 (n : Int) (es : List E) (hes : ∀ e ∈ es, EOk n e) (hel : es.length ≤ 12) (a b : Int) (hab : a ≠ b) : ∀ (d i : Nat) (c : Int), i + d = es.length → 0 ≤ c → c ≤ i → Ep (fun k => impl_Multiplicity.l0 k a b c es (es.length : Int) (i : Int)) (· = c + mult (es.drop i) a b) := by
  intro d
  induction d with
  | zero =>
    intro i c hi h0 h1
    refine Ep.up ?_
    simp only [impl_Multiplicity.l0]
    refine Ep.neg (by omega) (Ep.now ?_)
    rw [List.drop_of_length_le (by omega)]
    simp [mult, sumE]
  | succ d ih =>
    intro i c hi h0 h1
    have hlt : i < es.length := by omega
    have hk := hes _ (List.getElem_mem hlt)
    refine Ep.up ?_
    simp only [impl_Multiplicity.l0]
    refine Ep.pos (by omega) (Ep.pos (by omega) (Ep.pos (by omega) ?_))
    rw [rdE_get hlt, wrap_succ (by omega), wrap_id (x := c + 1) (by omega) (by omega), mult_drop hlt, multE_alt hk hab]
    refine Ep.ite (fun h => Ep.ite (fun h2 => ?_) (fun h2 => ?_)) (fun h => ?_)
    · rw [if_pos ⟨h, h2⟩]
      refine (ih (i + 1) (c + 1) (by omega) (by omega) (by omega)).mono ?_
      rintro _ rfl
      omega
    · rw [if_neg (fun x => h2 x.2)]
      refine (ih (i + 1) c (by omega) (by omega) (by omega)).mono ?_
      rintro _ rfl
      omega
    · rw [if_neg (fun x => h x.1)]
      refine (ih (i + 1) c (by omega) (by omega) (by omega)).mono ?_
      rintro _ rfl
      omega
theorem implMult (n : Int) (es : List E) (hes : ∀ e ∈ es, EOk n e) (hel : es.length ≤ 12) (a b : Int) (ha : 0 ≤ a ∧ a < n) (hb : 0 ≤ b ∧ b < n) : Ep (fun k => impl_Multiplicity.f k n es a b) (· = mult es a b) := by
  simp only [impl_Multiplicity.f]
  refine Ep.neg (by unfold mn; split <;> omega) (Ep.neg (by unfold mx; split <;> omega) ?_)
  refine Ep.up ?_
  simp only [impl_Multiplicity.j0]
  refine Ep.ite (fun h => Ep.now ?_) (fun h => ?_)
  · have : a = b := by simpa using h
    rw [this, mult_self hes]
  · have hab : a ≠ b := by simpa using h
    refine (implMult_l0 n es hes hel a b hab es.length 0 0 (by omega) (by omega) (by omega)).mono ?_
    rintro _ rfl
    simp
/-- The first place, counted from i; or -1. -/
def idxF (x : Int) : List Int → Nat → Int
  | [], _ => -1
  | a :: r, i => if x = a then i else idxF x r (i + 1)
theorem idxF_drop {l : List Int} {i : Nat} (h : i < l.length) (x : Int) (j : Nat) : idxF x (l.drop i) j = if x = l[i] then (j : Int) else idxF x (l.drop (i + 1)) (j + 1) := by
  rw [List.drop_eq_getElem_cons h]
  rfl
theorem idxF_mem (x : Int) : ∀ (l : List Int) (i : Nat), 0 ≤ idxF x l i ↔ x ∈ l
  | [], i => by simp [idxF]
  | a :: r, i => by
    unfold idxF
    by_cases h : x = a
    · rw [if_pos h, h]; simp
    · rw [if_neg h, idxF_mem x r (i + 1)]; simp [h]
theorem index_l0 (l : List Int) (x : Int) (hl : l.length ≤ 1048576) : ∀ (d i : Nat), i + d = l.length → Ep (fun k => slices_Index_int_int.l0 k l x (l.length : Int) (i : Int)) (· = idxF x (l.drop i) i) := by
  intro d
  induction d with
  | zero =>
    intro i hi
    refine Ep.up ?_
    simp only [slices_Index_int_int.l0]
    refine Ep.neg (by omega) (Ep.now ?_)
    rw [List.drop_of_length_le (by omega)]
    rfl
  | succ d ih =>
    intro i hi
    have hlt : i < l.length := by omega
    refine Ep.up ?_
    simp only [slices_Index_int_int.l0]
    refine Ep.pos (by omega) (Ep.pos (by omega) (Ep.pos (by omega) ?_))
    rw [rd_get hlt, wrap_succ (by omega), idxF_drop hlt]
    refine Ep.ite (fun h => Ep.now ?_) (fun h => ?_)
    · rw [if_pos h]
    · rw [if_neg h]
      exact ih (i + 1) (by omega)
theorem index_ok (l : List Int) (x : Int) (hl : l.length ≤ 1048576) : Ep (fun k => slices_Index_int_int.f k l x) (· = idxF x l 0) := by
  have := index_l0 l x hl l.length 0 (by omega)
  simp only [slices_Index_int_int.f]
  exact this
theorem contains_ok (l : List Int) (x : Int) (hl : l.length ≤ 1048576) : Ep (fun k => slices_Contains_int_int.f k l x) (· = decide (x ∈ l)) := by
  simp only [slices_Contains_int_int.f]
  refine Ep.bind (index_ok l x hl) ?_
  rintro _ rfl
  refine Ep.now ?_
  have := idxF_mem x l 0
  simp only [ge_iff_le, this]
theorem burnSum_bd {es : List E} (hel : es.length ≤ 12) (v : Int) : ∀ (b : List Int), 0 ≤ burnSum es b v ∧ burnSum es b v ≤ 12 * b.length
  | [] => by simp [burnSum]
  | a :: r => by
    have ih := burnSum_bd hel v r
    have h0 := mult_nonneg es v a
    have h1 := mult_le es v a
    unfold burnSum at ih ⊢
    rw [List.map_cons, List.sum_cons, List.length_cons]
    omega
/-- The list of truth values tells what burns. -/
def BRep (n : Nat) (x : List Bool) (b : List Int) : Prop := x.length = n ∧ ∀ w : Nat, w < n → rdOf false x (w : Int) = decide ((w : Int) ∈ b)
theorem BRep.push {n : Nat} {x : List Bool} {b : List Int} (h : BRep n x b) {v : Nat} (hv : v < n) : BRep n (x.set v true) (b ++ [(v : Int)]) := by
  refine ⟨by rw [List.length_set]; exact h.1, fun w hw => ?_⟩
  have := h.2 w hw
  simp only [rdOf, Int.toNat_natCast, List.getD_eq_getElem?_getD] at this ⊢
  by_cases e : v = w
  · subst e
    rw [List.getElem?_set_self (by have := h.1; omega)]
    simp
  · rw [List.getElem?_set_ne e, this]
    have : ¬ (w : Int) = v := by omega
    simp [this]
theorem BRep.start {n : Nat} {q : Int} (h0 : 0 ≤ q) (h1 : q < n) : BRep n ((List.replicate n false).set q.toNat true) [q] := by
  have h : BRep n (List.replicate n false) [] := ⟨by simp, fun w hw => by simp [rdOf, hw]⟩
  have := h.push (v := q.toNat) (by omega)
  have e : ((q.toNat : Nat) : Int) = q := by omega
  rw [e] at this
  exact this
theorem specBurn_l2 {n : Nat} {es : List E} {q : Int} (g : Gr n es q) (d : List Int) (hd : d.length = n) (b : List Int) (hok : b.Nodup ∧ ∀ v ∈ b, 0 ≤ v ∧ v < n) (x : List Bool) (hx : BRep n x b) (v : Nat) (hv : v < n) (next : Int) {Q : List Int → Prop}
    (hk : Ep (fun k => spec_l05Burn.l1 k d b x (if (v : Int) ∉ b ∧ rd d v < burnSum es b v then (v : Int) else next) ((v : Int) - 1) (n : Int) es) Q) :
    ∀ (dd i : Nat), i + dd = n → Ep (fun k => spec_l05Burn.l2 k d b x next (v : Int) (sumN i (fun w => if (w : Int) ∈ b then mult es v w else 0)) (i : Int) (n : Int) es) Q := by
  have hn := g.n6
  have hel := g.hel
  have hxl := hx.1
  have hbd : ∀ i, i ≤ n → 0 ≤ sumN i (fun w => if (w : Int) ∈ b then mult es v w else 0) ∧ sumN i (fun w => if (w : Int) ∈ b then mult es v w else 0) ≤ i * 12 := by
    intro i hi
    have hm : ∀ w : Nat, 0 ≤ (if (w : Int) ∈ b then mult es v w else 0) ∧ (if (w : Int) ∈ b then mult es v w else 0) ≤ 12 := by
      intro w
      have h0 := mult_nonneg es v w
      have h1 := mult_le es v w
      split <;> omega
    exact ⟨sumN_nonneg fun w _ => (hm w).1, sumN_le_const fun w _ => (hm w).2⟩
  intro dd
  induction dd with
  | zero =>
    intro i hi
    obtain rfl : i = n := by omega
    rw [sum_pick (mult es v) i b hok.1 hok.2]
    show Ep (fun k => spec_l05Burn.l2 k d b x next (v : Int) (burnSum es b v) (i : Int) (i : Int) es) Q
    refine Ep.up ?_
    simp only [spec_l05Burn.l2]
    rw [wrap_id (x := (v : Int) - 1) (by omega) (by omega)]
    refine Ep.neg (by omega) (Ep.pos (by omega) (Ep.pos (by omega) ?_))
    rw [hx.2 v hv]
    refine Ep.ite (fun h => ?_) (fun h => ?_)
    · have h' : (v : Int) ∈ b := by simpa using h
      rw [if_neg (fun y => y.1 h')] at hk
      exact hk
    · have h' : (v : Int) ∉ b := by simpa using h
      refine Ep.pos (by omega) (Ep.ite (fun h2 => ?_) (fun h2 => ?_))
      · rw [if_pos ⟨h', h2⟩] at hk
        exact hk
      · rw [if_neg (fun y => h2 y.2)] at hk
        exact hk
  | succ dd ih =>
    intro i hi
    have hb := hbd i (by omega)
    have hb1 := hbd (i + 1) (by omega)
    have ih' := ih (i + 1) (by omega)
    simp only [sumN] at ih' hb1
    refine Ep.up ?_
    simp only [spec_l05Burn.l2]
    refine Ep.pos (by omega) (Ep.pos (by omega) (Ep.pos (by omega) ?_))
    rw [hx.2 i (by omega), wrap_succ (by omega)]
    refine Ep.ite (fun h => ?_) (fun h => ?_)
    · have h' : (i : Int) ∈ b := by simpa using h
      rw [if_pos h'] at ih' hb1
      refine Ep.bind (specMult n es g.hes hel v i (by omega) (by omega)) ?_
      rintro _ rfl
      rw [wrap_id (by omega) (by omega)]
      exact ih'
    · have h' : (i : Int) ∉ b := by simpa using h
      rw [if_neg h', Int.add_zero] at ih'
      exact ih'
theorem specBurn_l1 {n : Nat} {es : List E} {q : Int} (g : Gr n es q) (d : List Int) (hd : d.length = n) (b : List Int) (hok : b.Nodup ∧ ∀ v ∈ b, 0 ≤ v ∧ v < n) (x : List Bool) (hx : BRep n x b) {Q : List Int → Prop}
    (hk : Ep (fun k => spec_l05Burn.l1 k d b x (nextB es (rd d) b n 0) (-1) (n : Int) es) Q) :
    ∀ i : Nat, i ≤ n → Ep (fun k => spec_l05Burn.l1 k d b x (nextB es (rd d) b (n - i) i) ((i : Int) - 1) (n : Int) es) Q := by
  have hn := g.n6
  intro i
  induction i with
  | zero => intro _; exact hk
  | succ i ih =>
    intro hi
    have ih' := ih (by omega)
    obtain ⟨m, hm⟩ : ∃ m, n - i = m + 1 := ⟨n - i - 1, by omega⟩
    have hm2 : n - (i + 1) = m := by omega
    rw [hm] at ih'
    unfold nextB at ih'
    rw [hm2, show (((i + 1 : Nat) : Int) - 1) = (i : Int) by omega]
    refine Ep.up ?_
    simp only [spec_l05Burn.l1]
    refine Ep.pos (by omega) ?_
    exact specBurn_l2 g d hd b hok x hx i (by omega) _ ih' n 0 (by omega)
theorem specBurn_l0 {n : Nat} {es : List E} {q : Int} (g : Gr n es q) (d : List Int) (hd : d.length = n) : ∀ (k : Nat) (b : List Int) (x : List Bool), n + 1 ≤ b.length + k → Burn n es (rd d) q b → BRep n x b → Ep (fun f => spec_l05Burn.l0 f d b x (n : Int) es) (· = burnW n es (rd d) k b) := by
  have hn := g.n6
  intro k
  induction k with
  | zero =>
    intro b x hl hb _
    have := hb.len g.hq
    omega
  | succ k ih =>
    intro b x hl hb hx
    have hok := hb.ok g.hq
    have hlen := hb.len g.hq
    have hxl := hx.1
    refine Ep.up ?_
    simp only [spec_l05Burn.l0]
    rw [wrap_id (x := (n : Int) - 1) (by omega) (by omega)]
    have h1 := specBurn_l1 (Q := (· = burnW n es (rd d) (k + 1) b)) g d hd b ⟨hok.1, hok.2.1⟩ x hx ?_ n (Nat.le_refl _)
    · rw [Nat.sub_self] at h1
      exact h1
    · unfold burnW
      have hnx := nextB_ok es (rd d) b n 0
      generalize nextB es (rd d) b n 0 = v at hnx ⊢
      refine Ep.up ?_
      simp only [spec_l05Burn.l1]
      refine Ep.neg (by omega) (Ep.ite (fun h => Ep.now ?_) (fun h => ?_))
      · rw [if_pos h]
      · rw [if_neg h]
        rcases hnx with ⟨h2, _⟩ | ⟨h2, h3, h4, h5⟩
        · omega
        · obtain ⟨v, rfl⟩ := Int.eq_ofNat_of_zero_le (a := v) (by omega)
          refine Ep.pos (by omega) (Ep.pos (by omega) (Ep.pos (by omega) ?_))
          exact ih _ _ (by simp; omega) (hb.step (by omega) (by omega) h4 h5) (hx.push (by omega))
theorem specBurn {n : Nat} {es : List E} {q : Int} (g : Gr n es q) (d : List Int) (hd : d.length = n) : Ep (fun k => spec_l05Burn.f k (n : Int) es d q) (· = burnF n es (rd d) q) := by
  have hn := g.n6
  have hq := g.hq
  simp only [spec_l05Burn.f]
  refine Ep.pos (by omega) (Ep.pos (by omega) (Ep.bind0 rfl (Ep.pos (by omega) (Ep.pos (by simp; omega) ?_))))
  exact specBurn_l0 g d hd n [q] _ (by simp; omega) .start (BRep.start hq.1 hq.2)
theorem implBurn_l2 {n : Nat} {es : List E} {q : Int} (g : Gr n es q) (d : List Int) (hd : d.length = n) (b : List Int) (hok : b.Nodup ∧ ∀ v ∈ b, 0 ≤ v ∧ v < n) (hbl : b.length ≤ n) (v : Nat) (hv : v < n) {Q : List Int → Prop}
    (hk : Ep (fun k => impl_burn.l1 k d b (if (v : Int) ∉ b ∧ rd d v < burnSum es b v then (v : Int) else -1) ((v + 1 : Nat) : Int) (n : Int) es) Q) :
    ∀ (dd i : Nat), i + dd = b.length → Ep (fun k => impl_burn.l2 k d b (-1) (v : Int) (burnSum es (b.take i) v) b (b.length : Int) (i : Int) (n : Int) es) Q := by
  have hn := g.n6
  have hel := g.hel
  intro dd
  induction dd with
  | zero =>
    intro i hi
    rw [List.take_of_length_le (by omega)]
    refine Ep.up ?_
    simp only [impl_burn.l2]
    have hw := wrap_succ (i := v) (by omega)
    rw [hw]
    refine Ep.neg (by omega) ?_
    refine Ep.bind (contains_ok b v (by omega)) ?_
    rintro _ rfl
    refine Ep.ite (fun h => ?_) (fun h => ?_)
    · have h' : (v : Int) ∈ b := by simpa using h
      rw [if_neg (fun y => y.1 h')] at hk
      exact hk
    · have h' : (v : Int) ∉ b := by simpa using h
      refine Ep.pos (by omega) (Ep.pos (by omega) (Ep.ite (fun h2 => ?_) (fun h2 => ?_)))
      · rw [if_pos ⟨h', h2⟩] at hk
        exact hk
      · rw [if_neg (fun y => h2 y.2)] at hk
        exact hk
  | succ dd ih =>
    intro i hi
    have hlt : i < b.length := by omega
    have hbi := hok.2 _ (List.getElem_mem hlt)
    have hb := burnSum_bd hel v (b.take i)
    have hml := mult_le es v b[i]
    have hm0 := mult_nonneg es v b[i]
    rw [List.length_take] at hb
    have e : burnSum es (b.take (i + 1)) v = burnSum es (b.take i) v + mult es v b[i] := by
      unfold burnSum
      rw [List.take_succ_eq_append_getElem hlt, List.map_append, List.sum_append]
      simp
    have ih' := ih (i + 1) (by omega)
    rw [e] at ih'
    refine Ep.up ?_
    simp only [impl_burn.l2]
    refine Ep.pos (by omega) (Ep.pos (by omega) (Ep.pos (by omega) ?_))
    rw [rd_get hlt, wrap_succ (by omega)]
    refine Ep.bind (implMult n es g.hes hel v b[i] (by omega) hbi) ?_
    rintro _ rfl
    rw [wrap_id (by omega) (by omega)]
    exact ih'
theorem implBurn_l1 {n : Nat} {es : List E} {q : Int} (g : Gr n es q) (d : List Int) (hd : d.length = n) (b : List Int) (hok : b.Nodup ∧ ∀ v ∈ b, 0 ≤ v ∧ v < n) (hbl : b.length ≤ n) {Q : List Int → Prop}
    (hk : Ep (fun k => if nextB es (rd d) b n 0 < 0 then some b else (if b.length < 17592186044416 then impl_burn.l0 k d (b ++ [nextB es (rd d) b n 0]) (n : Int) es else none)) Q) :
    ∀ (dd i : Nat), i + dd = n → nextB es (rd d) b n 0 = nextB es (rd d) b dd i → Ep (fun k => impl_burn.l1 k d b (-1) (i : Int) (n : Int) es) Q := by
  have hn := g.n6
  intro dd
  induction dd with
  | zero =>
    intro i hi he
    rw [he] at hk
    simp only [nextB] at hk
    refine Ep.up ?_
    simp only [impl_burn.l1]
    refine Ep.neg (by omega) (Ep.up ?_)
    simp only [impl_burn.j2]
    exact Ep.neg (by simp) hk
  | succ dd ih =>
    intro i hi he
    refine Ep.up ?_
    simp only [impl_burn.l1]
    refine Ep.pos (by omega) (Ep.up ?_)
    simp only [impl_burn.j2]
    refine Ep.pos (by simp) ?_
    have h2 := implBurn_l2 (Q := Q) g d hd b hok hbl i (by omega) ?_ b.length 0 (by omega)
    · simpa [burnSum] using h2
    · replace he : nextB es (rd d) b n 0 = (if (i : Int) ∉ b ∧ rd d i < burnSum es b i then (i : Int) else nextB es (rd d) b dd (i + 1)) := he
      by_cases h : (i : Int) ∉ b ∧ rd d i < burnSum es b i
      · rw [if_pos h] at he ⊢
        rw [he] at hk
        refine Ep.up ?_
        simp only [impl_burn.l1]
        refine Ep.ite (fun _ => ?_) (fun _ => ?_)
        · refine Ep.up ?_
          simp only [impl_burn.j2]
          exact Ep.neg (by simp) hk
        · refine Ep.up ?_
          simp only [impl_burn.j2]
          exact Ep.neg (by simp) hk
      · rw [if_neg h] at he ⊢
        exact ih (i + 1) (by omega) he
theorem implBurn_l0 {n : Nat} {es : List E} {q : Int} (g : Gr n es q) (d : List Int) (hd : d.length = n) : ∀ (k : Nat) (b : List Int), n + 1 ≤ b.length + k → Burn n es (rd d) q b → Ep (fun f => impl_burn.l0 f d b (n : Int) es) (· = burnW n es (rd d) k b) := by
  have hn := g.n6
  intro k
  induction k with
  | zero =>
    intro b hl hb
    have := hb.len g.hq
    omega
  | succ k ih =>
    intro b hl hb
    have hok := hb.ok g.hq
    have hlen := hb.len g.hq
    refine Ep.up ?_
    simp only [impl_burn.l0]
    refine implBurn_l1 (Q := (· = burnW n es (rd d) (k + 1) b)) g d hd b ⟨hok.1, hok.2.1⟩ hlen ?_ n 0 (by omega) rfl
    unfold burnW
    have hnx := nextB_ok es (rd d) b n 0
    generalize nextB es (rd d) b n 0 = v at hnx ⊢
    refine Ep.ite (fun h => Ep.now ?_) (fun h => ?_)
    · rw [if_pos h]
    · rw [if_neg h]
      rcases hnx with ⟨h2, _⟩ | ⟨h2, h3, h4, h5⟩
      · omega
      · exact Ep.pos (by omega) (ih _ (by simp; omega) (hb.step (by omega) (by omega) h4 h5))
theorem implBurn {n : Nat} {es : List E} {q : Int} (g : Gr n es q) (d : List Int) (hd : d.length = n) : Ep (fun k => impl_burn.f k (n : Int) es d q) (· = burnF n es (rd d) q) := by
  have hn := g.n6
  simp only [impl_burn.f]
  exact implBurn_l0 g d hd n [q] (by simp; omega) .start
end Go.Proofs.Ytgobnfeahffnaab.Cf
end

section
namespace Go.Proofs.Ytgobnfeahffnaab.Cf
set_option linter.unusedVariables false
set_option linter.unusedSimpArgs false
open Go.RowKit Go.Proofs.YtgobnfeahffnaabW.PrintWords Go.Proofs.Ytgobnfeahffnaab.P
theorem specDebt_l0 (q : Int) (p : List Int) (hl : p.length ≤ 1048576) : ∀ (d i : Nat), i + d = p.length → Ep (fun k => spec_l05Debt.l0 k q p (p.length : Int) (i : Int)) (· = decide (0 ≤ debtF q p d i)) := by
  intro d
  induction d with
  | zero =>
    intro i hi
    refine Ep.up ?_
    simp only [spec_l05Debt.l0]
    exact Ep.neg (by omega) (Ep.now rfl)
  | succ d ih =>
    intro i hi
    refine Ep.up ?_
    simp only [spec_l05Debt.l0]
    refine Ep.pos (by omega) (Ep.pos (by omega) (Ep.pos (by omega) ?_))
    rw [wrap_succ (by omega)]
    unfold debtF
    refine Ep.ite (fun h => ?_) (fun h => ?_)
    · rw [if_pos h]
      exact ih (i + 1) (by omega)
    · rw [if_neg h]
      refine Ep.ite (fun h2 => Ep.now ?_) (fun h2 => ?_)
      · rw [if_pos h2]
        have : (0 : Int) ≤ i := by omega
        simp
      · rw [if_neg h2]
        exact ih (i + 1) (by omega)
theorem specDebt (p : List Int) (q : Int) (hl : p.length ≤ 1048576) : Ep (fun k => spec_l05Debt.f k p q) (· = decide (0 ≤ debtF q p p.length 0)) := by
  simp only [spec_l05Debt.f]
  exact specDebt_l0 q p hl p.length 0 (by omega)
theorem implDebt_l0 (q : Int) (p : List Int) (hl : p.length ≤ 1048576) : ∀ (d i : Nat), i + d = p.length → Ep (fun k => impl_inDebt.l0 k q p (p.length : Int) (i : Int)) (· = debtF q p d i) := by
  intro d
  induction d with
  | zero =>
    intro i hi
    refine Ep.up ?_
    simp only [impl_inDebt.l0]
    exact Ep.neg (by omega) (Ep.now rfl)
  | succ d ih =>
    intro i hi
    refine Ep.up ?_
    simp only [impl_inDebt.l0]
    refine Ep.pos (by omega) (Ep.pos (by omega) (Ep.pos (by omega) ?_))
    rw [wrap_succ (by omega)]
    unfold debtF
    refine Ep.ite (fun h => ?_) (fun h => ?_)
    · rw [if_pos h]
      exact ih (i + 1) (by omega)
    · rw [if_neg h]
      refine Ep.ite (fun h2 => Ep.now ?_) (fun h2 => ?_)
      · rw [if_pos h2]
      · rw [if_neg h2]
        exact ih (i + 1) (by omega)
theorem implDebt (p : List Int) (q : Int) (hl : p.length ≤ 1048576) : Ep (fun k => impl_inDebt.f k p q) (· = debtF q p p.length 0) := by
  simp only [impl_inDebt.f]
  exact implDebt_l0 q p hl p.length 0 (by omega)
/-- t has been borrowed. -/
def Owed (n : Nat) (es : List E) (q : Int) (d : List Int) (t : Int → Int) : Prop := Legal n es q (dual es (rd d)) t
theorem Owed.bds {n : Nat} {es : List E} {q : Int} (g : Gr n es q) {d : List Int} (hd : d.length = n) (hb : Bd d 1000) {t : Int → Int} (h : Owed n es q d t) :
    (∀ v : Int, 0 ≤ v → v < n → 0 ≤ t v ∧ t v ≤ 36432) ∧ sumN n (fun i => t (i : Int)) ≤ 218592 ∧ t q = 0 ∧ ∀ w : Int, 0 ≤ w → w < n → -440000 ≤ rd d w + lap es t w ∧ rd d w + lap es t w ≤ 440000 := by
  have h1 := Legal.small g.n6 g.hes g.hj g.hq h (c := 1012) (by omega) (fun v h0 h1 h2 => by
    unfold dual
    have := hb v h0 (by omega)
    have := val_le es v
    have := g.hel
    omega)
  refine ⟨fun v h0 h2 => by have := h1.1 v h0 h2; omega, by omega, h.nonneg.2, fun w h0 h2 => ?_⟩
  have h3 := lap_bd g.hes g.hel (s := t) (L := 0) (S := 36432) (by omega) (fun v h0 h2 => by have := h1.1 v h0 h2; omega) w
  have := hb w h0 (by omega)
  omega
theorem Owed.zero {n : Nat} {es : List E} {q : Int} {d : List Int} : Owed n es q d (fun _ => 0) := Legal.zero
theorem Owed.step {n : Nat} {es : List E} {q : Int} {d : List Int} {t : Int → Int} (h : Owed n es q d t) {v : Int} (h0 : 0 ≤ v) (h1 : v < n) (hv : v ≠ q) (hd : rd d v + lap es t v < 0) : Owed n es q d (fun w => t w + one v 1 w) :=
  Legal.step h h0 h1 hv (by unfold dual; omega)
theorem specRed_l1 {n : Nat} {es : List E} {q : Int} (g : Gr n es q) {d : List Int} (hd : d.length = n) (hb : Bd d 1000) (t0 : Int → Int) {Q : List Int × List Int → Prop}
    (hk : ∀ (t : Int → Int) (s x : List Int), Owed n es q d t → Rep n s (fun w => - t w) → Rep n x (fun w => rd d w + lap es t w) → (sumN n (fun i => t0 (i : Int)) < sumN n (fun i => t (i : Int)) ∨ (t = t0 ∧ ∀ v : Int, 0 ≤ v → v < n → v ≠ q → 0 ≤ rd d v + lap es t v)) → Ep (fun k => spec_l05Reduce.l0 k d q s x (n : Int) es) Q) :
    ∀ (dd i : Nat) (t : Int → Int) (s x : List Int), i + dd = n → Owed n es q d t → Rep n s (fun w => - t w) → Rep n x (fun w => rd d w + lap es t w) → (sumN n (fun i => t0 (i : Int)) < sumN n (fun i => t (i : Int)) ∨ (t = t0 ∧ ∀ v : Int, 0 ≤ v → v < i → v ≠ q → 0 ≤ rd d v + lap es t v)) → Ep (fun k => spec_l05Reduce.l1 k d q s x (n : Int) (i : Int) (n : Int) es) Q := by
  have hn := g.n6
  intro dd
  induction dd with
  | zero =>
    intro i t s x hi ho hs hx hg
    obtain rfl : i = n := by omega
    refine Ep.up ?_
    simp only [spec_l05Reduce.l1]
    exact Ep.neg (by omega) (hk t s x ho hs hx hg)
  | succ dd ih =>
    intro i t s x hi ho hs hx hg
    have hbd := ho.bds g hd hb
    have hxl := hx.1
    have hsl := hs.1
    have hxi : rd x (i : Int) = rd d (i : Int) + lap es t (i : Int) := hx.2 i (by omega) (by omega)
    have hsi : rd s (i : Int) = - t (i : Int) := hs.2 i (by omega) (by omega)
    have hti := hbd.1 i (by omega) (by omega)
    refine Ep.up ?_
    simp only [spec_l05Reduce.l1]
    rw [wrap_succ (by omega)]
    refine Ep.pos (by omega) (Ep.ite (fun h => ?_) (fun h => Ep.pos (by omega) (Ep.pos (by omega) (Ep.ite (fun h2 => ?_) (fun h2 => ?_)))))
    · refine ih (i + 1) t s x (by omega) ho hs hx ?_
      rcases hg with hg | ⟨hg, hg2⟩
      · exact .inl hg
      · refine .inr ⟨hg, fun v v0 v1 v2 => ?_⟩
        by_cases e : v = i
        · exact absurd (e.trans h) v2
        · exact hg2 v v0 (by omega) v2
    · refine Ep.pos (by omega) (Ep.bind0 rfl ?_)
      rw [hsi, wrap_id (by omega) (by omega)]
      have ho' := ho.step (v := (i : Int)) (by omega) (by omega) h (by omega)
      have hbd' := ho'.bds g hd hb
      have hs' : Rep n (s.set (i : Int).toNat (- t (i : Int) - 1)) (fun w => - (t w + one (i : Int) 1 w)) := (hs.set (v := (i : Int)) (by omega) (by omega) _).congr fun w _ _ => by
        unfold one
        by_cases e : w = i
        · rw [if_pos e, if_pos e, e]; omega
        · rw [if_neg e, if_neg e]; omega
      refine Ep.bind (specFire n hn es g.hes g.hel d _ hd hs'.1 (B := 1000) (K := 100000) ⟨by omega, by omega⟩ hb (hs'.bd fun w w0 w1 => by have := hbd'.1 w w0 w1; omega) (by omega)) ?_
      rintro r ⟨hr, _⟩
      refine ih (i + 1) _ _ r (by omega) ho' hs' (((hr.congr g.hes hs'.2).rep hd).congr fun w w0 w1 => ?_) (.inl ?_)
      · rw [lap_neg es (fun w => t w + one (i : Int) 1 w)]; omega
      · rw [sum_grow (by omega) (by omega)]
        rcases hg with hg | ⟨hg, _⟩
        · omega
        · rw [hg]; omega
    · refine ih (i + 1) t s x (by omega) ho hs hx ?_
      rcases hg with hg | ⟨hg, hg2⟩
      · exact .inl hg
      · refine .inr ⟨hg, fun v v0 v1 v2 => ?_⟩
        by_cases e : v = i
        · rw [e]; omega
        · exact hg2 v v0 (by omega) v2
/-- Debts are paid: what is left to do. -/
theorem specRed_l0 {n : Nat} {es : List E} {q : Int} (g : Gr n es q) {d : List Int} (hd : d.length = n) (hb : Bd d 1000) {Q : List Int × List Int → Prop}
    (hk : ∀ (t : Int → Int) (s x : List Int), Owed n es q d t → Rep n s (fun w => - t w) → Rep n x (fun w => rd d w + lap es t w) → (∀ v : Int, 0 ≤ v → v < n → v ≠ q → 0 ≤ rd d v + lap es t v) → Ep (fun k => spec_l05Reduce.l2 k d q s x (n : Int) es) Q) :
    ∀ (k : Nat) (t : Int → Int) (s x : List Int), 218592 < sumN n (fun i => t (i : Int)) + k → Owed n es q d t → Rep n s (fun w => - t w) → Rep n x (fun w => rd d w + lap es t w) → Ep (fun f => spec_l05Reduce.l0 f d q s x (n : Int) es) Q := by
  have hn := g.n6
  intro k
  induction k with
  | zero =>
    intro t s x hs ho _ _
    have := ho.bds g hd hb
    omega
  | succ k ih =>
    intro t s x hm ho hs hx
    have hxl := hx.1
    refine Ep.up ?_
    simp only [spec_l05Reduce.l0]
    refine Ep.bind (specDebt x q (by omega)) ?_
    rintro _ rfl
    refine Ep.ite (fun h => ?_) (fun h => ?_)
    · have h' : 0 ≤ debtF q x x.length 0 := by simpa using h
      have hp := debt_pos (q := q) hxl (by omega)
      rw [hxl]
      rw [hxl] at hp
      generalize debtF q x n 0 = u at hp
      have hxu : rd x u = rd d u + lap es t u := hx.2 u hp.1 hp.2.1
      refine specRed_l1 g hd hb t (fun t' s' x' ho' hs' hx' hg => ih t' s' x' ?_ ho' hs' hx') n 0 t s x (by omega) ho hs hx (.inr ⟨rfl, fun v v0 v1 => by omega⟩)
      rcases hg with hg | ⟨rfl, hg⟩
      · omega
      · have := hg u hp.1 hp.2.1 hp.2.2.1
        omega
    · have h' : ¬ 0 ≤ debtF q x x.length 0 := by simpa using h
      refine hk t s x ho hs hx fun v v0 v1 v2 => ?_
      have := debt_neg (q := q) hxl (by omega) v v0 v1 v2
      have hxv : rd x v = rd d v + lap es t v := hx.2 v v0 v1
      omega
structure Sec (n : Nat) (es : List E) (q : Int) (d : List Int) (t u : Int → Int) : Prop where
  ow : Owed n es q d t
  sets : Sets n es q (fun v => rd d v + lap es t v) u
theorem Sec.bds {n : Nat} {es : List E} {q : Int} (g : Gr n es q) {d : List Int} (hd : d.length = n) (hb : Bd d 1000) {t u : Int → Int} (h : Sec n es q d t u) :
    (∀ v : Int, 0 ≤ v → v < n → 0 ≤ u v ∧ u v ≤ 15840000) ∧ sumN n (fun i => u (i : Int)) ≤ 95040000 ∧ (∀ v : Int, 0 ≤ v → v < n → -15880000 ≤ u v - t v ∧ u v - t v ≤ 15880000) ∧ ∀ w : Int, 0 ≤ w → w < n → -200000000 ≤ rd d w + lap es t w - lap es u w ∧ rd d w + lap es t w - lap es u w ≤ 200000000 := by
  have h1 := h.ow.bds g hd hb
  have h2 := h.sets.small g.n6 g.hes g.hj g.hq (c := 440000) (by omega) (fun v h0 h2 _ => (h1.2.2.2 v h0 h2).2)
  refine ⟨fun v h0 h3 => by have := h2.1 v h0 h3; omega, by omega, fun v h0 h3 => by have := h2.1 v h0 h3; have := h1.1 v h0 h3; omega, fun w h0 h3 => ?_⟩
  have h4 := lap_bd g.hes g.hel (s := u) (L := 0) (S := 15840000) (by omega) (fun v h0 h2' => by have := h2.1 v h0 h2'; omega) w
  have := h1.2.2.2 w h0 h3
  omega
theorem Sec.done {n : Nat} {es : List E} {q : Int} (g : Gr n es q) {d : List Int} {t u : Int → Int} (h : Sec n es q d t u) {s x : List Int} (hs : Rep n s (fun w => u w - t w)) (hx : Rep n x (fun w => rd d w + lap es t w - lap es u w)) {b : List Int} (hbu : Burn n es (rd x) q b) (hl : b.length = n) : Reduced n es q d (x, s) := by
  refine ⟨hx.1, hs.1, hbu.red g.hes g.hq hl (fun v v0 v1 v2 => ?_), ?_, fun v v0 v1 => ?_⟩
  · rw [hx.2 v v0 v1]
    exact h.sets.keeps v v0 v1 v2
  · have e : rd s q = u q - t q := hs.2 q g.hq.1 g.hq.2
    show rd s q = 0
    rw [e, h.sets.at_q, h.ow.nonneg.2]
    rfl
  · have e : rd x v = rd d v + lap es t v - lap es u v := hx.2 v v0 v1
    show rd x v = rd d v - lap es (rd s) v
    rw [e, lap_congr g.hes (t := fun w => u w - t w) hs.2, lap_sub]
    omega
/-- What is not reached by the fire, among the first i. -/
def unbTo (b : List Int) (i : Int) (v : Int) : Int := if v < i then unb b v else 0
theorem unbTo_succ {b : List Int} {i : Int} (hm : i ∉ b) (v : Int) : unbTo b (i + 1) v = unbTo b i v + one i 1 v := by
  unfold unbTo one
  by_cases c : v = i
  · rw [c, if_pos (by omega), if_neg (by omega), if_pos rfl, unb_not hm]; rfl
  · rw [if_neg c]
    by_cases c2 : v < i
    · rw [if_pos (by omega), if_pos c2]; omega
    · rw [if_neg (by omega), if_neg c2]; rfl
theorem unbTo_stay {b : List Int} {i : Int} (hm : i ∈ b) (v : Int) : unbTo b (i + 1) v = unbTo b i v := by
  unfold unbTo
  by_cases c : v = i
  · rw [c, if_pos (by omega), if_neg (by omega), unb_mem hm]
  · by_cases c2 : v < i
    · rw [if_pos (by omega), if_pos c2]
    · rw [if_neg (by omega), if_neg c2]
theorem unbTo_01 (b : List Int) (i v : Int) : 0 ≤ unbTo b i v ∧ unbTo b i v ≤ 1 := by
  unfold unbTo
  split
  · by_cases h : v ∈ b
    · rw [unb_mem h]; omega
    · rw [unb_not h]; omega
  · omega
theorem specRed_l3 {n : Nat} {es : List E} {q : Int} (g : Gr n es q) {d : List Int} (hd : d.length = n) (hb : Bd d 1000) {t u : Int → Int} (h : Sec n es q d t u) (b : List Int) (hbl : b.length ≤ 6) {Q : List Int × List Int → Prop}
    (hk : ∀ s x : List Int, Rep n s (fun w => u w + unb b w - t w) → Rep n x (fun w => rd d w + lap es t w - lap es (fun w => u w + unb b w) w) → Ep (fun k => spec_l05Reduce.l2 k d q s x (n : Int) es) Q) :
    ∀ (dd i : Nat) (s : List Int), i + dd = n → Rep n s (fun w => u w + unbTo b i w - t w) → Ep (fun k => spec_l05Reduce.l3 k d q s b (i : Int) (n : Int) es) Q := by
  have hn := g.n6
  have hbd := h.bds g hd hb
  intro dd
  induction dd with
  | zero =>
    intro i s hi hs
    obtain rfl : i = n := by omega
    have hs' : Rep i s (fun w => u w + unb b w - t w) := hs.congr fun w _ w1 => by unfold unbTo; rw [if_pos w1]
    refine Ep.up ?_
    simp only [spec_l05Reduce.l3]
    refine Ep.neg (by omega) ?_
    refine Ep.bind (specFire i hn es g.hes g.hel d s hd hs'.1 (B := 1000) (K := 20000000) ⟨by omega, by omega⟩ hb (hs.bd fun w w0 w1 => by
      have := hbd.2.2.1 w w0 w1
      have := unbTo_01 b i w
      omega) (by omega)) ?_
    rintro r ⟨hr, _⟩
    refine hk s r hs' (((hr.congr g.hes hs'.2).rep hd).congr fun w w0 w1 => ?_)
    have e : lap es (fun w => u w + unb b w - t w) w = lap es (fun w => u w + unb b w) w - lap es t w := lap_sub es (fun w => u w + unb b w) t w
    rw [e]
    omega
  | succ dd ih =>
    intro i s hi hs
    have hsl := hs.1
    have hsi : rd s (i : Int) = u i + unbTo b i i - t i := hs.2 i (by omega) (by omega)
    have h1 := hbd.2.2.1 i (by omega) (by omega)
    have h2 := unbTo_01 b i i
    refine Ep.up ?_
    simp only [spec_l05Reduce.l3]
    rw [wrap_succ (by omega)]
    refine Ep.pos (by omega) (Ep.bind (specHas b i (by omega)) ?_)
    rintro _ rfl
    refine Ep.ite (fun hm => ?_) (fun hm => Ep.pos (by omega) (Ep.pos (by omega) ?_))
    · have hm' : (i : Int) ∈ b := by simpa using hm
      refine ih (i + 1) s (by omega) (hs.congr fun w _ _ => ?_)
      rw [Int.natCast_succ, unbTo_stay hm']
    · have hm' : (i : Int) ∉ b := by simpa using hm
      rw [hsi, wrap_id (by omega) (by omega)]
      refine ih (i + 1) _ (by omega) ((hs.set (v := (i : Int)) (by omega) (by omega) _).congr fun w _ _ => ?_)
      rw [Int.natCast_succ, unbTo_succ hm']
      unfold one
      by_cases e : w = i
      · rw [if_pos e, if_pos e, e]; omega
      · rw [if_neg e, if_neg e]; omega
theorem specRed_l2 {n : Nat} {es : List E} {q : Int} (g : Gr n es q) {d : List Int} (hd : d.length = n) (hb : Bd d 1000) {t : Int → Int} : ∀ (k : Nat) (u : Int → Int) (s x : List Int), 95040000 < sumN n (fun i => u (i : Int)) + k → Sec n es q d t u → Rep n s (fun w => u w - t w) → Rep n x (fun w => rd d w + lap es t w - lap es u w) →
    Ep (fun f => spec_l05Reduce.l2 f d q s x (n : Int) es) (Reduced n es q d) := by
  have hn := g.n6
  intro k
  induction k with
  | zero =>
    intro u s x hm h _ _
    have := h.bds g hd hb
    omega
  | succ k ih =>
    intro u s x hm h hs hx
    have hxl := hx.1
    have hbo := burnF_ok (es := es) (d := rd x) g.hq
    have hlen := hbo.1.len g.hq
    refine Ep.up ?_
    simp only [spec_l05Reduce.l2]
    refine Ep.bind (specBurn g x hxl) ?_
    rintro b rfl
    generalize burnF n es (rd x) q = b at hbo hlen ⊢
    refine Ep.ite (fun h2 => Ep.now ?_) (fun h2 => ?_)
    · exact h.done g hs hx hbo.1 (by omega)
    · have hex := unburnt_some (n := n) (b := b) (by omega)
      have hst : Sec n es q d t (fun w => u w + unb b w) := ⟨h.ow, h.sets.step g.hes g.hq hx.2 hbo.1 hbo.2⟩
      refine specRed_l3 g hd hb h b (by omega) (fun s' x' hs' hx' => ih (fun w => u w + unb b w) s' x' ?_ hst hs' hx') n 0 s (by omega) (hs.congr fun w w0 _ => ?_)
      · have h9 : sumN n (fun i => u (i : Int)) + 1 ≤ sumN n (fun i => u (i : Int) + unb b (i : Int)) := sum_unb (u := u) hex
        omega
      · unfold unbTo
        rw [if_neg (by omega)]
        omega
theorem specReduce' {n : Nat} {es : List E} {q : Int} (g : Gr n es q) {d : List Int} (hd : d.length = n) (hb : Bd d 1000) : Ep (fun k => spec_l05Reduce.f k (n : Int) es d q) (Reduced n es q d) := by
  have hn := g.n6
  have hz : ∀ w, lap es (fun _ => 0) w = 0 := fun w => lap_const (c := 0) (fun _ _ => ⟨rfl, rfl⟩) w
  simp only [spec_l05Reduce.f]
  refine Ep.pos (by omega) (Ep.pos (by omega) (Ep.bind0 rfl (Ep.pos (by simp; omega) ?_)))
  refine specRed_l0 g hd hb (fun t s x ho hs hx hp => ?_) 218593 (fun _ => 0) _ d ?_ .zero (Rep.zero n) ((Rep.self hd).congr fun w _ _ => by rw [hz]; omega)
  · refine specRed_l2 g hd hb 95040001 (fun _ => 0) s x ?_ ⟨ho, Sets.zero hp⟩ (hs.congr fun w _ _ => by omega) (hx.congr fun w _ _ => by rw [hz]; omega)
    simp only [sumN_zero]; omega
  · simp only [sumN_zero]; omega
theorem specReduce {n : Nat} {es : List E} {q : Int} (g : Gr n es q) {d : List Int} (hd : d.length = n) (hb : Bd d 1000) : Ep (fun k => spec_l05Reduce.f k (n : Int) es d q) (· = reduceS n es q d) := (specReduce' g hd hb).mono fun _ hr => hr.eq g.hes g.hq
theorem reduceS_ok {n : Nat} {es : List E} {q : Int} (g : Gr n es q) {d : List Int} (hd : d.length = n) (hb : Bd d 1000) : Reduced n es q d (reduceS n es q d) := by
  obtain ⟨r, hr, _⟩ := specReduce' g hd hb
  rw [← hr.eq g.hes g.hq]
  exact hr
theorem implRed_l2 {n : Nat} {es : List E} {q : Int} (g : Gr n es q) {d : List Int} (hd : d.length = n) (hb : Bd d 1000) {t u : Int → Int} (h : Sec n es q d t u) (b : List Int) (hbl : b.length ≤ 6) {Q : List Int × List Int → Prop}
    (hk : ∀ s x : List Int, Rep n s (fun w => u w + unb b w - t w) → Rep n x (fun w => rd d w + lap es t w - lap es (fun w => u w + unb b w) w) → Ep (fun k => impl_reduce.l1 k q x s (n : Int) es) Q) :
    ∀ (dd i : Nat) (s x : List Int), i + dd = n → Rep n s (fun w => u w + unbTo b i w - t w) → Rep n x (fun w => rd d w + lap es t w - lap es (fun w => u w + unbTo b i w) w) → Ep (fun k => impl_reduce.l2 k q x s b (n : Int) (i : Int) (n : Int) es) Q := by
  have hn := g.n6
  have hbd := h.bds g hd hb
  intro dd
  induction dd with
  | zero =>
    intro i s x hi hs hx
    obtain rfl : i = n := by omega
    refine Ep.up ?_
    simp only [impl_reduce.l2]
    refine Ep.neg (by omega) (hk s x (hs.congr fun w _ w1 => by unfold unbTo; rw [if_pos w1]) (hx.congr fun w _ _ => ?_))
    rw [lap_congr g.hes (s := fun w => u w + unbTo b i w) (t := fun w => u w + unb b w) (fun v _ v1 => by unfold unbTo; rw [if_pos v1])]
  | succ dd ih =>
    intro i s x hi hs hx
    have hsl := hs.1
    have hxl := hx.1
    have hsi : rd s (i : Int) = u i + unbTo b i i - t i := hs.2 i (by omega) (by omega)
    have h1 := hbd.2.2.1 i (by omega) (by omega)
    have h2 := unbTo_01 b i i
    refine Ep.up ?_
    simp only [impl_reduce.l2]
    rw [wrap_succ (by omega)]
    refine Ep.pos (by omega) (Ep.bind (contains_ok b i (by omega)) ?_)
    rintro _ rfl
    refine Ep.ite (fun hm => ?_) (fun hm => ?_)
    · have hm' : (i : Int) ∈ b := by simpa using hm
      have e : unbTo b ((i : Int) + 1) = unbTo b i := funext fun w => unbTo_stay hm' w
      refine ih (i + 1) s x (by omega) (hs.congr fun w _ _ => ?_) (hx.congr fun w _ _ => ?_)
      · rw [Int.natCast_succ, e]
      · simp only [Int.natCast_succ, e]
    · have hm' : (i : Int) ∉ b := by simpa using hm
      have hbx : Bd x 1000000000 := hx.bd fun w w0 w1 => by
        have h3 := hbd.2.2.2 w w0 w1
        have h4 := lap_bd g.hes g.hel (s := unbTo b i) (L := 0) (S := 1) (by omega) (fun v _ _ => by have := unbTo_01 b i v; omega) w
        rw [lap_add]
        omega
      refine Ep.bind (implFire n es g.hes g.hel x i 1 hxl ⟨by omega, by omega⟩ (B := 1000000000) (K := 1) ⟨by omega, by omega⟩ hbx (by omega) (by omega)) ?_
      rintro r ⟨hr, _⟩
      refine Ep.pos (by omega) (Ep.pos (by omega) ?_)
      rw [hsi, wrap_id (by omega) (by omega)]
      refine ih (i + 1) _ r (by omega) ((hs.set (v := (i : Int)) (by omega) (by omega) _).congr fun w _ _ => ?_) ((hr.rep hxl).congr fun w w0 w1 => ?_)
      · rw [Int.natCast_succ, unbTo_succ hm']
        unfold one
        by_cases e : w = i
        · rw [if_pos e, if_pos e, e]; omega
        · rw [if_neg e, if_neg e]; omega
      · have hxw : rd x w = rd d w + lap es t w - lap es (fun w => u w + unbTo b i w) w := hx.2 w w0 w1
        have e : (fun w => u w + unbTo b ((i + 1 : Nat) : Int) w) = fun w => (fun w => u w + unbTo b i w) w + one (i : Int) 1 w := by
          funext w
          show u w + unbTo b ((i + 1 : Nat) : Int) w = u w + unbTo b i w + one (i : Int) 1 w
          rw [Int.natCast_succ, unbTo_succ hm']
          omega
        rw [e, lap_add, hxw]
        omega
theorem implRed_l1 {n : Nat} {es : List E} {q : Int} (g : Gr n es q) {d : List Int} (hd : d.length = n) (hb : Bd d 1000) {t : Int → Int} : ∀ (k : Nat) (u : Int → Int) (s x : List Int), 95040000 < sumN n (fun i => u (i : Int)) + k → Sec n es q d t u → Rep n s (fun w => u w - t w) → Rep n x (fun w => rd d w + lap es t w - lap es u w) →
    Ep (fun f => impl_reduce.l1 f q x s (n : Int) es) (Reduced n es q d) := by
  have hn := g.n6
  intro k
  induction k with
  | zero =>
    intro u s x hm h _ _
    have := h.bds g hd hb
    omega
  | succ k ih =>
    intro u s x hm h hs hx
    have hxl := hx.1
    have hsl := hs.1
    have hbo := burnF_ok (es := es) (d := rd x) g.hq
    have hlen := hbo.1.len g.hq
    refine Ep.up ?_
    simp only [impl_reduce.l1]
    refine Ep.bind (implBurn g x hxl) ?_
    rintro b rfl
    generalize burnF n es (rd x) q = b at hbo hlen ⊢
    refine Ep.ite (fun h2 => Ep.now ?_) (fun h2 => ?_)
    · exact h.done g hs hx hbo.1 (by omega)
    · have hex := unburnt_some (n := n) (b := b) (by omega)
      have hst : Sec n es q d t (fun w => u w + unb b w) := ⟨h.ow, h.sets.step g.hes g.hq hx.2 hbo.1 hbo.2⟩
      have e : ∀ w : Int, 0 ≤ w → u w + unbTo b ((0 : Nat) : Int) w = u w := fun w w0 => by unfold unbTo; rw [if_neg (by omega)]; omega
      rw [hsl]
      refine implRed_l2 g hd hb h b (by omega) (fun s' x' hs' hx' => ih (fun w => u w + unb b w) s' x' ?_ hst hs' hx') n 0 s x (by omega) (hs.congr fun w w0 _ => ?_) (hx.congr fun w w0 w1 => ?_)
      · have h9 : sumN n (fun i => u (i : Int)) + 1 ≤ sumN n (fun i => u (i : Int) + unb b (i : Int)) := sum_unb (u := u) hex
        omega
      · rw [e w w0]
      · rw [lap_congr g.hes (s := u) (t := fun w => u w + unbTo b ((0 : Nat) : Int) w) (fun v v0 _ => (e v v0).symm)]
theorem implRed_l0 {n : Nat} {es : List E} {q : Int} (g : Gr n es q) {d : List Int} (hd : d.length = n) (hb : Bd d 1000) : ∀ (k : Nat) (t : Int → Int) (s x : List Int), 218592 < sumN n (fun i => t (i : Int)) + k → Owed n es q d t → Rep n s (fun w => - t w) → Rep n x (fun w => rd d w + lap es t w) →
    Ep (fun f => impl_reduce.l0 f q x s (debtF q x x.length 0) (n : Int) es) (Reduced n es q d) := by
  have hn := g.n6
  have hel := g.hel
  have hz : ∀ w, lap es (fun _ => 0) w = 0 := fun w => lap_const (c := 0) (fun _ _ => ⟨rfl, rfl⟩) w
  intro k
  induction k with
  | zero =>
    intro t s x hm ho _ _
    have := ho.bds g hd hb
    omega
  | succ k ih =>
    intro t s x hm ho hs hx
    have hxl := hx.1
    have hsl := hs.1
    have hbd := ho.bds g hd hb
    refine Ep.up ?_
    simp only [impl_reduce.l0]
    refine Ep.ite (fun h => ?_) (fun h => ?_)
    · have hp := debt_pos (q := q) hxl (by omega)
      generalize debtF q x x.length 0 = v at hp ⊢
      obtain ⟨h0, h1, h2, h3⟩ := hp
      have hvp := val_pos g.hj g.hq ⟨h0, h1⟩ h2
      have hvl := val_le es v
      have hxv : rd x v = rd d v + lap es t v := hx.2 v h0 h1
      have hsv : rd s v = - t v := hs.2 v h0 h1
      have hxb := hbd.2.2.2 v h0 h1
      have htv := hbd.1 v h0 h1
      have hdv := Int.ediv_mul_le (val es v - 1 - rd x v) (b := val es v) (by omega)
      have hd0 : 1 ≤ (val es v - 1 - rd x v) / val es v := (Int.le_ediv_iff_mul_le hvp).2 (by omega)
      have hdm : (val es v - 1 - rd x v) / val es v ≤ val es v - 1 - rd x v := Int.ediv_le_self _ (by omega)
      have htd : Int.tdiv (val es v - 1 - rd x v) (val es v) = (val es v - 1 - rd x v) / val es v := Int.tdiv_eq_ediv_of_nonneg (by omega)
      have hbx : Bd x 1000000 := hx.bd fun w w0 w1 => by
        have := hbd.2.2.2 w w0 w1
        omega
      refine Ep.bind (implValence n es v (by omega)) ?_
      rintro _ rfl
      rw [valG_in ⟨h0, h1⟩]
      refine Ep.pos (by omega) (Ep.pos (by omega) (Ep.neg (by omega) ?_))
      rw [wrap_id (x := val es v - 1) (by omega) (by omega), wrap_id (x := val es v - 1 - rd x v) (by omega) (by omega), htd, wrap_id (x := (val es v - 1 - rd x v) / val es v) (by omega) (by omega)]
      generalize (val es v - 1 - rd x v) / val es v = m at hdv hd0 hdm ⊢
      obtain ⟨m, rfl⟩ := Int.eq_ofNat_of_zero_le (a := m) (by omega)
      rw [wrap_id (x := -(m : Int)) (by omega) (by omega)]
      refine Ep.bind (implFire n es g.hes g.hel x v (-(m : Int)) hxl ⟨h0, h1⟩ (B := 1000000) (K := 1000000) ⟨by omega, by omega⟩ hbx (by omega) (by omega)) ?_
      rintro r ⟨hr, _⟩
      have hr' := hr.rep hxl
      have hrl := hr'.1
      have ho' : Owed n es q d (fun w => t w + one v m w) := Legal.many g.hes ho h0 h1 h2 m (by unfold dual; omega)
      refine Ep.pos (by omega) ?_
      refine Ep.bind (implDebt r q (by omega)) ?_
      rintro _ rfl
      rw [hsv, wrap_id (x := - t v - (m : Int)) (by omega) (by omega)]
      refine ih (fun w => t w + one v m w) _ r ?_ ho' ((hs.set h0 h1 _).congr fun w _ _ => ?_) (hr'.congr fun w w0 w1 => ?_)
      · rw [sum_grow h0 h1]
        omega
      · unfold one
        by_cases e : w = v
        · rw [if_pos e, if_pos e, e]; omega
        · rw [if_neg e, if_neg e]; omega
      · have h5 : rd x w = rd d w + lap es t w := hx.2 w w0 w1
        have e : one v (-(m : Int)) = fun w => - one v m w := by
          funext w
          unfold one
          split <;> omega
        rw [h5, lap_add, e, lap_neg]
        omega
    · have hp := debt_neg (q := q) hxl (by omega)
      refine implRed_l1 g hd hb 95040001 (fun _ => 0) s x ?_ ⟨ho, Sets.zero fun v v0 v1 v2 => ?_⟩ (hs.congr fun w _ _ => by omega) (hx.congr fun w _ _ => by rw [hz]; omega)
      · simp only [sumN_zero]; omega
      · have h3 := hp v v0 v1 v2
        have h4 : rd x v = rd d v + lap es t v := hx.2 v v0 v1
        omega
theorem implReduce {n : Nat} {es : List E} {q : Int} (g : Gr n es q) {d : List Int} (hd : d.length = n) (hb : Bd d 1000) : Ep (fun k => impl_reduce.f k (n : Int) es d q) (· = reduceS n es q d) := by
  have hn := g.n6
  have hz : ∀ w, lap es (fun _ => 0) w = 0 := fun w => lap_const (c := 0) (fun _ _ => ⟨rfl, rfl⟩) w
  simp only [impl_reduce.f]
  refine Ep.bind0 (copy_eq d (by omega)) (Ep.pos (by omega) (Ep.pos (by omega) ?_))
  refine Ep.bind (implDebt d q (by omega)) ?_
  rintro _ rfl
  refine (implRed_l0 g hd hb 218593 (fun _ => 0) _ d ?_ .zero (Rep.zero n) ((Rep.self hd).congr fun w _ _ => by rw [hz]; omega)).mono fun r hr => hr.eq g.hes g.hq
  simp only [sumN_zero]; omega
/-- The numbers are no greater than a thousand million. -/
def Mod (l : List Int) : Prop := ∀ x ∈ l, -1000000000 ≤ x ∧ x ≤ 1000000000
theorem implSum_l0 (l : List Int) (hl : l.length ≤ 1048576) (hm : Mod l) : ∀ (d i : Nat) (a : Int), i + d = l.length → -(1000000000 * (i : Int)) ≤ a → a ≤ 1000000000 * (i : Int) → Ep (fun k => impl_sumOf.l0 k a l (l.length : Int) (i : Int)) (· = a + (l.drop i).sum) := by
  intro d
  induction d with
  | zero =>
    intro i a hi h0 h1
    refine Ep.up ?_
    simp only [impl_sumOf.l0]
    refine Ep.neg (by omega) (Ep.now ?_)
    rw [List.drop_of_length_le (by omega)]
    simp
  | succ d ih =>
    intro i a hi h0 h1
    have hlt : i < l.length := by omega
    have hx := hm _ (List.getElem_mem hlt)
    refine Ep.up ?_
    simp only [impl_sumOf.l0]
    refine Ep.pos (by omega) (Ep.pos (by omega) (Ep.pos (by omega) ?_))
    rw [rd_get hlt, wrap_succ (by omega), wrap_id (by omega) (by omega), List.drop_eq_getElem_cons hlt]
    refine (ih (i + 1) _ (by omega) (by omega) (by omega)).mono ?_
    rintro _ rfl
    rw [List.sum_cons]
    omega
theorem implSum (l : List Int) (hl : l.length ≤ 1048576) (hm : Mod l) : Ep (fun k => impl_sumOf.f k l) (· = l.sum) := by
  simp only [impl_sumOf.f]
  refine (implSum_l0 l hl hm l.length 0 0 (by omega) (by omega) (by omega)).mono ?_
  rintro _ rfl
  simp
theorem specSum_l0 (l : List Int) (hl : l.length ≤ 1048576) (hm : Mod l) : ∀ (d i : Nat) (a : Int), i + d = l.length → -(1000000000 * (i : Int)) ≤ a → a ≤ 1000000000 * (i : Int) → Ep (fun k => spec_DegreeOf.l0 k a l (l.length : Int) (i : Int)) (· = a + (l.drop i).sum) := by
  intro d
  induction d with
  | zero =>
    intro i a hi h0 h1
    refine Ep.up ?_
    simp only [spec_DegreeOf.l0]
    refine Ep.neg (by omega) (Ep.now ?_)
    rw [List.drop_of_length_le (by omega)]
    simp
  | succ d ih =>
    intro i a hi h0 h1
    have hlt : i < l.length := by omega
    have hx := hm _ (List.getElem_mem hlt)
    refine Ep.up ?_
    simp only [spec_DegreeOf.l0]
    refine Ep.pos (by omega) (Ep.pos (by omega) (Ep.pos (by omega) ?_))
    rw [rd_get hlt, wrap_succ (by omega), wrap_id (by omega) (by omega), List.drop_eq_getElem_cons hlt]
    refine (ih (i + 1) _ (by omega) (by omega) (by omega)).mono ?_
    rintro _ rfl
    rw [List.sum_cons]
    omega
theorem specSum (l : List Int) (hl : l.length ≤ 1048576) (hm : Mod l) : Ep (fun k => spec_DegreeOf.f k l) (· = l.sum) := by
  simp only [spec_DegreeOf.f]
  refine (specSum_l0 l hl hm l.length 0 0 (by omega) (by omega) (by omega)).mono ?_
  rintro _ rfl
  simp
end Go.Proofs.Ytgobnfeahffnaab.Cf
end

section
namespace Go.Proofs.Ytgobnfeahffnaab.Cf
set_option linter.unusedVariables false
set_option linter.unusedSimpArgs false
open Go.RowKit Go.Proofs.YtgobnfeahffnaabW.PrintWords
theorem dOk_all {n : Int} {es : List E} {d : List Int} (h : dOk n es d = true) : ∃ m : Nat, n = m ∧ (∀ q : Int, 0 ≤ q → q < n → Gr m es q) ∧ 1 ≤ m ∧ m ≤ 6 ∧ d.length = m ∧ Bd d 60 ∧ Mod d := by
  obtain ⟨h1, h2, h3⟩ := dOk_iff.1 h
  obtain ⟨m, rfl⟩ := Int.eq_ofNat_of_zero_le (a := n) (by omega)
  have hg := h1.1
  unfold EsOk at hg
  exact ⟨m, rfl, fun q q0 q1 => Gr.of h1 ⟨q0, q1⟩, by omega, by omega, by omega, Bd.of60 h3, fun x hx => by have := h3 x hx; omega⟩
end Go.Proofs.Ytgobnfeahffnaab.Cf
end

section
namespace Go.Proofs.Ytgobnfeahffnaab.P
open Go.RowKit Go.Proofs.YtgobnfeahffnaabW.PrintWords Go.Proofs.YtgobnfeahffnaabW.PrintLast Go.Proofs.YtgobnfeahffnaabW.PrintMore
attribute [local go_sem] max2_int min2_int max_two min_two max_three min_three max_four min_four
set_option linter.unusedVariables false
set_option linter.unusedSimpArgs false
mutual
def spec_FullPile.j0 : Nat → Int → Bool → Int → List (S54) → Option (List Int)
 | 0, _, _, _, _ => none
 | k + 1, x1, x17, x102000, x102001 => if x17 = true then (some ([] : List Int)) else (spec_FullPile.l0 k x1 (([] : List Int)) 0 x102000 x102001)
def spec_FullPile.l0 : Nat → Int → List Int → Int → Int → List (S54) → Option (List Int)
 | 0, _, _, _, _, _ => none
 | k + 1, x1, x5, x6, x102000, x102001 => if x6 < x102000 then (if x6 = x1 then (if x5.length < 17592186044416 then (spec_FullPile.l0 k x1 (x5 ++ [0]) (wrap64 (x6 + 1)) x102000 x102001) else (none)) else ((spec_Valence.f k x102000 x102001 x6).bind fun t110 => (if x5.length < 17592186044416 then (spec_FullPile.l0 k x1 (x5 ++ [wrap64 (t110 - 1)]) (wrap64 (x6 + 1)) x102000 x102001) else (none)))) else (some x5)
end
def spec_FullPile.f (k : Nat) (a0_0 : Int) (l0_1 : List (S54)) (a1 : Int) : Option (List Int) := (spec_GraphOk.f k a0_0 l0_1).bind fun t102 => (if t102 = true then ((spec_l01In.f a1 0 (wrap64 (a0_0 - 1))).bind fun t103 => (spec_FullPile.j0 k a1 (!t103) a0_0 l0_1)) else (spec_FullPile.j0 k a1 true a0_0 l0_1))
theorem spec_FullPile.mono_l : ∀ k, (∀ y0 y1 y2 y3, LeO (spec_FullPile.j0 k y0 y1 y2 y3) (spec_FullPile.j0 (k + 1) y0 y1 y2 y3)) ∧ (∀ y0 y1 y2 y3 y4, LeO (spec_FullPile.l0 k y0 y1 y2 y3 y4) (spec_FullPile.l0 (k + 1) y0 y1 y2 y3 y4))
 | 0 => ⟨fun _ _ _ _ r h => by simp [spec_FullPile.j0] at h, fun _ _ _ _ _ r h => by simp [spec_FullPile.l0] at h⟩
 | k + 1 => by
  obtain ⟨ih0, ih1⟩ := spec_FullPile.mono_l k
  refine ⟨?_, ?_⟩
  ·intro y0 y1 y2 y3
   unfold spec_FullPile.j0
   exact zm10
  ·intro y0 y1 y2 y3 y4
   unfold spec_FullPile.l0
   exact zm10
theorem spec_FullPile.mono : ∀ a0 a1 a2 k, LeO (spec_FullPile.f k a0 a1 a2) (spec_FullPile.f (k + 1) a0 a1 a2) := by
 intro a0 a1 a2 k; obtain ⟨ih0, ih1⟩ := spec_FullPile.mono_l k; unfold spec_FullPile.f; exact zm10
end Go.Proofs.Ytgobnfeahffnaab.P
end

section
namespace Go.Proofs.Ytgobnfeahffnaab.P
open Go.RowKit Go.Proofs.YtgobnfeahffnaabW.PrintWords Go.Proofs.YtgobnfeahffnaabW.PrintLast Go.Proofs.YtgobnfeahffnaabW.PrintMore
attribute [local go_sem] max2_int min2_int max_two min_two max_three min_three max_four min_four
set_option linter.unusedVariables false
set_option linter.unusedSimpArgs false
def impl_FullPile.l0 : Nat → Int → List Int → Int → Int → Int → List (S54) → Option (List Int)
 | 0, _, _, _, _, _, _ => none
 | k + 1, x1, x5, x15, x16, x102000, x102001 => if x16 < x15 then (if x16 = x1 then (impl_FullPile.l0 k x1 x5 x15 (wrap64 (x16 + 1)) x102000 x102001) else ((impl_Valence.f k x102000 x102001 x16).bind fun t106 => (if 0 ≤ x16 then (if x16 < (x5.length : Int) then (impl_FullPile.l0 k x1 (x5.set (x16 : Int).toNat (wrap64 (t106 - 1))) x15 (wrap64 (x16 + 1)) x102000 x102001) else (none)) else (none)))) else (some x5)
def impl_FullPile.f (k : Nat) (a0_0 : Int) (l0_1 : List (S54)) (a1 : Int) : Option (List Int) := (impl_isVertex.f a0_0 l0_1 a1).bind fun t102 => (if t102 = true then (if 0 ≤ a0_0 then (if (a0_0 : Int).toNat ≤ 35184372088832 then ((some (List.replicate (a0_0 : Int).toNat 0 : List Int)).bind fun y103 => (impl_FullPile.l0 k a1 y103 (y103.length : Int) 0 a0_0 l0_1)) else (none)) else (none)) else (some ([] : List Int)))
theorem impl_FullPile.mono_l : ∀ k, (∀ y0 y1 y2 y3 y4 y5, LeO (impl_FullPile.l0 k y0 y1 y2 y3 y4 y5) (impl_FullPile.l0 (k + 1) y0 y1 y2 y3 y4 y5))
 | 0 => fun _ _ _ _ _ _ r h => by simp [impl_FullPile.l0] at h
 | k + 1 => by
  have ih0 := impl_FullPile.mono_l k
  ·intro y0 y1 y2 y3 y4 y5
   unfold impl_FullPile.l0
   exact zm9
theorem impl_FullPile.mono : ∀ a0 a1 a2 k, LeO (impl_FullPile.f k a0 a1 a2) (impl_FullPile.f (k + 1) a0 a1 a2) := by
 intro a0 a1 a2 k; have ih0 := impl_FullPile.mono_l k; unfold impl_FullPile.f; exact zm9
end Go.Proofs.Ytgobnfeahffnaab.P
end

section
namespace Go.Proofs.Ytgobnfeahffnaab.Cf
set_option linter.unusedVariables false
set_option linter.unusedSimpArgs false
open Go.RowKit Go.Proofs.YtgobnfeahffnaabW.PrintWords Go.Proofs.Ytgobnfeahffnaab.P
theorem map_take_succ {α : Type} (f : Nat → α) (n i : Nat) (h : i < n) : ((List.range n).map f).take (i + 1) = ((List.range n).map f).take i ++ [f i] := by
  rw [List.take_succ_eq_append_getElem (by simpa using h)]
  simp
end Go.Proofs.Ytgobnfeahffnaab.Cf
end

section
namespace Go.Proofs.Ytgobnfeahffnaab.P
open Go.RowKit Go.Proofs.YtgobnfeahffnaabW.PrintWords Go.Proofs.YtgobnfeahffnaabW.PrintLast Go.Proofs.YtgobnfeahffnaabW.PrintMore
attribute [local go_sem] max2_int min2_int max_two min_two max_three min_three max_four min_four
set_option linter.unusedVariables false
set_option linter.unusedSimpArgs false
def spec_l07Minus.l0 : Nat → List Int → List Int → List Int → Int → Int → Option (List Int)
 | 0, _, _, _, _, _ => none
 | k + 1, x1, x5, x9, x10, x11 => if x11 < x10 then (if 0 ≤ x11 then (if x11 < (x9.length : Int) then (if x11 < (x1.length : Int) then (if x5.length < 17592186044416 then (spec_l07Minus.l0 k x1 (x5 ++ [wrap64 ((rd x9 x11) - (rd x1 x11))]) x9 x10 (wrap64 (x11 + 1))) else (none)) else (none)) else (none)) else (none)) else (some x5)
def spec_l07Minus.f (k : Nat) (l0 : List Int) (l1 : List Int) : Option (List Int) := spec_l07Minus.l0 k l1 (([] : List Int)) l0 (l0.length : Int) 0
theorem spec_l07Minus.mono_l : ∀ k, (∀ y0 y1 y2 y3 y4, LeO (spec_l07Minus.l0 k y0 y1 y2 y3 y4) (spec_l07Minus.l0 (k + 1) y0 y1 y2 y3 y4))
 | 0 => fun _ _ _ _ _ r h => by simp [spec_l07Minus.l0] at h
 | k + 1 => by
  have ih0 := spec_l07Minus.mono_l k
  ·intro y0 y1 y2 y3 y4
   unfold spec_l07Minus.l0
   exact zm0
theorem spec_l07Minus.mono : ∀ a0 a1 k, LeO (spec_l07Minus.f k a0 a1) (spec_l07Minus.f (k + 1) a0 a1) := by
 intro a0 a1 k; have ih0 := spec_l07Minus.mono_l k; unfold spec_l07Minus.f; exact zm0
def slices_Equal_int_int.l0 : Nat → List Int → List Int → Int → Int → Option (Bool)
 | 0, _, _, _, _ => none
 | k + 1, x0, x1, x12, x13 => if x13 < x12 then (if 0 ≤ x13 then (if x13 < (x0.length : Int) then (if x13 < (x1.length : Int) then (if (rd x0 x13) = (rd x1 x13) then (slices_Equal_int_int.l0 k x0 x1 x12 (wrap64 (x13 + 1))) else (some false)) else (none)) else (none)) else (none)) else (some true)
def slices_Equal_int_int.f (k : Nat) (l0 : List Int) (l1 : List Int) : Option (Bool) := if (l0.length : Int) = (l1.length : Int) then (slices_Equal_int_int.l0 k l0 l1 (l0.length : Int) 0) else (some false)
theorem slices_Equal_int_int.mono_l : ∀ k, (∀ y0 y1 y2 y3, LeO (slices_Equal_int_int.l0 k y0 y1 y2 y3) (slices_Equal_int_int.l0 (k + 1) y0 y1 y2 y3))
 | 0 => fun _ _ _ _ r h => by simp [slices_Equal_int_int.l0] at h
 | k + 1 => by
  have ih0 := slices_Equal_int_int.mono_l k
  ·intro y0 y1 y2 y3
   unfold slices_Equal_int_int.l0
   exact zm0
theorem slices_Equal_int_int.mono : ∀ a0 a1 k, LeO (slices_Equal_int_int.f k a0 a1) (slices_Equal_int_int.f (k + 1) a0 a1) := by
 intro a0 a1 k; have ih0 := slices_Equal_int_int.mono_l k; unfold slices_Equal_int_int.f; exact zm0
def impl_SameDivisor.f (k : Nat) (l0 : List Int) (l1 : List Int) : Option (Bool) := (slices_Equal_int_int.f k l0 l1).bind fun t101 => (some t101)
theorem impl_SameDivisor.mono : ∀ a0 a1 k, LeO (impl_SameDivisor.f k a0 a1) (impl_SameDivisor.f (k + 1) a0 a1) := by
 intro a0 a1 k; unfold impl_SameDivisor.f; repeat' first | (with_reducible apply slices_Equal_int_int.mono) | (with_reducible exact LeO.refl _) | (with_reducible exact LeO.none _) | (with_reducible refine LeO.ite ?_ ?_) | (with_reducible refine LeO.bind ?_ (fun _ => ?_)) | apply slices_Equal_int_int.mono | exact LeO.none _ | refine LeO.ite ?_ ?_ | refine LeO.bind ?_ (fun _ => ?_)
def spec_SameDivisor.l0 : Nat → List Int → List Int → Int → Int → Option (Bool)
 | 0, _, _, _, _ => none
 | k + 1, x1, x12, x13, x14 => if x14 < x13 then (if 0 ≤ x14 then (if x14 < (x12.length : Int) then (if x14 < (x1.length : Int) then (if (rd x12 x14) = (rd x1 x14) then (spec_SameDivisor.l0 k x1 x12 x13 (wrap64 (x14 + 1))) else (some false)) else (none)) else (none)) else (none)) else (some true)
def spec_SameDivisor.f (k : Nat) (l0 : List Int) (l1 : List Int) : Option (Bool) := if (l0.length : Int) = (l1.length : Int) then (spec_SameDivisor.l0 k l1 l0 (l0.length : Int) 0) else (some false)
theorem spec_SameDivisor.mono_l : ∀ k, (∀ y0 y1 y2 y3, LeO (spec_SameDivisor.l0 k y0 y1 y2 y3) (spec_SameDivisor.l0 (k + 1) y0 y1 y2 y3))
 | 0 => fun _ _ _ _ r h => by simp [spec_SameDivisor.l0] at h
 | k + 1 => by
  have ih0 := spec_SameDivisor.mono_l k
  ·intro y0 y1 y2 y3
   unfold spec_SameDivisor.l0
   exact zm0
theorem spec_SameDivisor.mono : ∀ a0 a1 k, LeO (spec_SameDivisor.f k a0 a1) (spec_SameDivisor.f (k + 1) a0 a1) := by
 intro a0 a1 k; have ih0 := spec_SameDivisor.mono_l k; unfold spec_SameDivisor.f; exact zm0
end Go.Proofs.Ytgobnfeahffnaab.P
end

section
namespace Go.Proofs.Ytgobnfeahffnaab.Cf
set_option linter.unusedVariables false
set_option linter.unusedSimpArgs false
open Go.RowKit Go.Proofs.YtgobnfeahffnaabW.PrintWords Go.Proofs.Ytgobnfeahffnaab.P
theorem repL_take {n i : Nat} (f : Int → Int) (h : i < n) : (repL n f).take (i + 1) = (repL n f).take i ++ [f (i : Int)] := by
  unfold repL
  exact map_take_succ (fun j : Nat => f (j : Int)) n i h
def plusL (a b : List Int) : List Int := repL a.length fun w => rd a w + rd b w
def negL (a : List Int) : List Int := repL a.length fun w => - rd a w
theorem implPlus_l0 (a b : List Int) (n : Nat) (hn : n ≤ 1048576) (ha : a.length = n) (hb : b.length = n) (ba : Bd a 1000000000) (bb : Bd b 1000000000) : ∀ (d i : Nat) (x : List Int), i + d = n → Rep n x (fun w => if w < i then rd a w + rd b w else rd a w) → Ep (fun k => impl_plus.l0 k b x (n : Int) (i : Int)) (· = plusL a b) := by
  intro d
  induction d with
  | zero =>
    intro i x hi hx
    obtain rfl : i = n := by omega
    refine Ep.up ?_
    simp only [impl_plus.l0]
    refine Ep.neg (by omega) (Ep.now ?_)
    unfold plusL
    rw [ha]
    exact (hx.congr fun w _ w1 => by rw [if_pos w1]).eq
  | succ d ih =>
    intro i x hi hx
    have hxl := hx.1
    have h1 := ba i (by omega) (by omega)
    have h2 := bb i (by omega) (by omega)
    have hxi : rd x (i : Int) = rd a (i : Int) := by
      have h9 := hx.2 i (by omega) (by omega)
      simp only [if_neg (show ¬ (i : Int) < i by omega)] at h9
      exact h9
    refine Ep.up ?_
    simp only [impl_plus.l0]
    refine Ep.pos (by omega) (Ep.pos (by omega) (Ep.pos (by omega) (Ep.pos (by omega) ?_)))
    rw [wrap_succ (by omega), hxi, wrap_id (by omega) (by omega)]
    refine ih (i + 1) _ (by omega) ((hx.set (v := (i : Int)) (by omega) (by omega) _).congr fun w _ _ => ?_)
    by_cases e : w = i
    · rw [if_pos e, if_pos (by omega), e]
    · rw [if_neg e]
      by_cases e2 : w < i
      · rw [if_pos e2, if_pos (by omega)]
      · rw [if_neg e2, if_neg (by omega)]
theorem implPlus (a b : List Int) (hl : a.length ≤ 1048576) (hab : a.length = b.length) (ba : Bd a 1000000000) (bb : Bd b 1000000000) : Ep (fun k => impl_plus.f k a b) (· = plusL a b) := by
  simp only [impl_plus.f]
  refine Ep.bind0 (copy_eq a hl) ?_
  exact implPlus_l0 a b a.length hl rfl hab.symm ba bb a.length 0 a (by omega) ((Rep.self rfl).congr fun w w0 _ => by rw [if_neg (by omega)])
theorem specAdd_l0 (a b : List Int) (n : Nat) (hn : n ≤ 1048576) (ha : a.length = n) (hb : b.length = n) (ba : Bd a 1000000000) (bb : Bd b 1000000000) : ∀ (d i : Nat), i + d = n → Ep (fun k => spec_AddDivisors.l0 k b ((plusL a b).take i) a (n : Int) (i : Int)) (· = (plusL a b, true)) := by
  intro d
  have hL : (plusL a b).length = n := by simp [plusL, repL_len, ha]
  induction d with
  | zero =>
    intro i hi
    refine Ep.up ?_
    simp only [spec_AddDivisors.l0]
    refine Ep.neg (by omega) (Ep.now ?_)
    rw [List.take_of_length_le (by omega)]
  | succ d ih =>
    intro i hi
    have h1 := ba i (by omega) (by omega)
    have h2 := bb i (by omega) (by omega)
    have hlen : ((plusL a b).take i).length < 17592186044416 := by rw [List.length_take]; omega
    have ih' := ih (i + 1) (by omega)
    have ht : (plusL a b).take (i + 1) = (plusL a b).take i ++ [rd a (i : Int) + rd b (i : Int)] := repL_take _ (by omega)
    rw [ht] at ih'
    refine Ep.up ?_
    simp only [spec_AddDivisors.l0]
    rw [wrap_succ (by omega), wrap_id (x := rd a (i : Int) + rd b (i : Int)) (by omega) (by omega)]
    exact Ep.pos (by omega) (Ep.pos (by omega) (Ep.pos (by omega) (Ep.pos (by omega) (Ep.pos hlen ih'))))
theorem specAdd (a b : List Int) (hl : a.length ≤ 1048576) (hab : a.length = b.length) (ba : Bd a 1000000000) (bb : Bd b 1000000000) : Ep (fun k => spec_AddDivisors.f k a b) (· = (plusL a b, true)) := by
  simp only [spec_AddDivisors.f]
  refine Ep.pos (by omega) ?_
  have := specAdd_l0 a b a.length hl rfl hab.symm ba bb a.length 0 (by omega)
  simpa using this
theorem specNeg_l0 (a : List Int) (n : Nat) (hn : n ≤ 1048576) (ha : a.length = n) (ba : Bd a 1000000000) : ∀ (d i : Nat), i + d = n → Ep (fun k => spec_NegateDivisor.l0 k ((negL a).take i) a (n : Int) (i : Int)) (· = negL a) := by
  intro d
  have hL : (negL a).length = n := by simp [negL, repL_len, ha]
  induction d with
  | zero =>
    intro i hi
    refine Ep.up ?_
    simp only [spec_NegateDivisor.l0]
    refine Ep.neg (by omega) (Ep.now ?_)
    rw [List.take_of_length_le (by omega)]
  | succ d ih =>
    intro i hi
    have h1 := ba i (by omega) (by omega)
    have hlen : ((negL a).take i).length < 17592186044416 := by rw [List.length_take]; omega
    have ih' := ih (i + 1) (by omega)
    have ht : (negL a).take (i + 1) = (negL a).take i ++ [- rd a (i : Int)] := repL_take _ (by omega)
    rw [ht] at ih'
    refine Ep.up ?_
    simp only [spec_NegateDivisor.l0]
    rw [wrap_succ (by omega), wrap_id (x := - rd a (i : Int)) (by omega) (by omega)]
    exact Ep.pos (by omega) (Ep.pos (by omega) (Ep.pos (by omega) (Ep.pos hlen ih')))
theorem specNeg (a : List Int) (hl : a.length ≤ 1048576) (ba : Bd a 1000000000) : Ep (fun k => spec_NegateDivisor.f k a) (· = negL a) := by
  simp only [spec_NegateDivisor.f]
  have := specNeg_l0 a a.length hl rfl ba a.length 0 (by omega)
  simpa using this
theorem implNeg_l0 (a : List Int) (n : Nat) (hn : n ≤ 1048576) (ha : a.length = n) (ba : Bd a 1000000000) : ∀ (d i : Nat) (x : List Int), i + d = n → Rep n x (fun w => if w < i then - rd a w else rd a w) → Ep (fun k => impl_NegateDivisor.l0 k x (n : Int) (i : Int)) (· = negL a) := by
  intro d
  induction d with
  | zero =>
    intro i x hi hx
    obtain rfl : i = n := by omega
    refine Ep.up ?_
    simp only [impl_NegateDivisor.l0]
    refine Ep.neg (by omega) (Ep.now ?_)
    unfold negL
    rw [ha]
    exact (hx.congr fun w _ w1 => by rw [if_pos w1]).eq
  | succ d ih =>
    intro i x hi hx
    have hxl := hx.1
    have h1 := ba i (by omega) (by omega)
    have hxi : rd x (i : Int) = rd a (i : Int) := by
      have h9 := hx.2 i (by omega) (by omega)
      simp only [if_neg (show ¬ (i : Int) < i by omega)] at h9
      exact h9
    refine Ep.up ?_
    simp only [impl_NegateDivisor.l0]
    refine Ep.pos (by omega) (Ep.pos (by omega) (Ep.pos (by omega) ?_))
    rw [wrap_succ (by omega), hxi, wrap_id (by omega) (by omega)]
    refine ih (i + 1) _ (by omega) ((hx.set (v := (i : Int)) (by omega) (by omega) _).congr fun w _ _ => ?_)
    by_cases e : w = i
    · rw [if_pos e, if_pos (by omega), e]
    · rw [if_neg e]
      by_cases e2 : w < i
      · rw [if_pos e2, if_pos (by omega)]
      · rw [if_neg e2, if_neg (by omega)]
theorem implNeg (a : List Int) (hl : a.length ≤ 1048576) (ba : Bd a 1000000000) : Ep (fun k => impl_NegateDivisor.f k a) (· = negL a) := by
  simp only [impl_NegateDivisor.f]
  refine Ep.bind0 (copy_eq a hl) ?_
  exact implNeg_l0 a a.length hl rfl ba a.length 0 a (by omega) ((Rep.self rfl).congr fun w w0 _ => by rw [if_neg (by omega)])
theorem negL_len (a : List Int) : (negL a).length = a.length := by simp [negL, repL_len]
theorem plusL_len (a b : List Int) : (plusL a b).length = a.length := by simp [plusL, repL_len]
theorem negL_bd {a : List Int} {B : Int} (h : Bd a B) : Bd (negL a) B := (repL_rep a.length _).bd fun w h0 h1 => by have := h w h0 h1; omega
theorem plusL_bd {a b : List Int} {A B : Int} (hab : a.length = b.length) (ha : Bd a A) (hb : Bd b B) : Bd (plusL a b) (A + B) := (repL_rep a.length _).bd fun w h0 h1 => by have := ha w h0 h1; have := hb w h0 (by omega); omega
end Go.Proofs.Ytgobnfeahffnaab.Cf
end

section
namespace Go.Proofs.Ytgobnfeahffnaab.P
open Go.RowKit Go.Proofs.YtgobnfeahffnaabW.PrintWords Go.Proofs.YtgobnfeahffnaabW.PrintLast Go.Proofs.YtgobnfeahffnaabW.PrintMore
attribute [local go_sem] max2_int min2_int max_two min_two max_three min_three max_four min_four
set_option linter.unusedVariables false
set_option linter.unusedSimpArgs false
def spec_l11Lit.l0 : Nat → Int → List Int → List Int → Int → Int → Int → List (S54) → Option (List Int)
 | 0, _, _, _, _, _, _, _ => none
 | k + 1, x2, x7, x11, x12, x13, x102000, x102001 => if x13 < x12 then (if 0 ≤ x13 then (if x13 < (x11.length : Int) then ((spec_Multiplicity.f k x102000 x102001 x2 x13).bind fun t106 => (if x7.length < 17592186044416 then (spec_l11Lit.l0 k x2 (x7 ++ [wrap64 ((rd x11 x13) + t106)]) x11 x12 (wrap64 (x13 + 1)) x102000 x102001) else (none))) else (none)) else (none)) else (some x7)
def spec_l11Lit.f (k : Nat) (a0_0 : Int) (l0_1 : List (S54)) (l1 : List Int) (a2 : Int) : Option (List Int) := spec_l11Lit.l0 k a2 (([] : List Int)) l1 (l1.length : Int) 0 a0_0 l0_1
theorem spec_l11Lit.mono_l : ∀ k, (∀ y0 y1 y2 y3 y4 y5 y6, LeO (spec_l11Lit.l0 k y0 y1 y2 y3 y4 y5 y6) (spec_l11Lit.l0 (k + 1) y0 y1 y2 y3 y4 y5 y6))
 | 0 => fun _ _ _ _ _ _ _ r h => by simp [spec_l11Lit.l0] at h
 | k + 1 => by
  have ih0 := spec_l11Lit.mono_l k
  ·intro y0 y1 y2 y3 y4 y5 y6
   unfold spec_l11Lit.l0
   exact zm18
theorem spec_l11Lit.mono : ∀ a0 a1 a2 a3 k, LeO (spec_l11Lit.f k a0 a1 a2 a3) (spec_l11Lit.f (k + 1) a0 a1 a2 a3) := by
 intro a0 a1 a2 a3 k; have ih0 := spec_l11Lit.mono_l k; unfold spec_l11Lit.f; exact zm18
def spec_IsRecurrent.l0 : Nat → List Int → Int → List Int → List Int → Int → Int → Option (Bool)
 | 0, _, _, _, _, _, _ => none
 | k + 1, x1, x2, x7, x26, x27, x28 => if x28 < x27 then (if 0 ≤ x28 then (if x28 < (x26.length : Int) then (if x28 = x2 then (spec_IsRecurrent.l0 k x1 x2 x7 x26 x27 (wrap64 (x28 + 1))) else (if (rd x26 x28) = 1 then (spec_IsRecurrent.l0 k x1 x2 x7 x26 x27 (wrap64 (x28 + 1))) else (some false))) else (none)) else (none)) else ((spec_SameDivisor.f k x7 x1).bind fun t113 => (some t113))
def spec_IsRecurrent.f (k : Nat) (a0_0 : Int) (l0_1 : List (S54)) (l1 : List Int) (a2 : Int) : Option (Bool) := (spec_IsStable.f k a0_0 l0_1 l1 a2).bind fun t102 => (if t102 = true then ((spec_l11Lit.f k a0_0 l0_1 l1 a2).bind fun t103 => ((spec_l10Settle.f k a0_0 l0_1 t103 a2).bind fun bt106 => (spec_IsRecurrent.l0 k l1 a2 bt106.1 bt106.2 (bt106.2.length : Int) 0))) else (some false))
theorem spec_IsRecurrent.mono_l : ∀ k, (∀ y0 y1 y2 y3 y4 y5, LeO (spec_IsRecurrent.l0 k y0 y1 y2 y3 y4 y5) (spec_IsRecurrent.l0 (k + 1) y0 y1 y2 y3 y4 y5))
 | 0 => fun _ _ _ _ _ _ r h => by simp [spec_IsRecurrent.l0] at h
 | k + 1 => by
  have ih0 := spec_IsRecurrent.mono_l k
  ·intro y0 y1 y2 y3 y4 y5
   unfold spec_IsRecurrent.l0
   exact zm13
theorem spec_IsRecurrent.mono : ∀ a0 a1 a2 a3 k, LeO (spec_IsRecurrent.f k a0 a1 a2 a3) (spec_IsRecurrent.f (k + 1) a0 a1 a2 a3) := by
 intro a0 a1 a2 a3 k; have ih0 := spec_IsRecurrent.mono_l k; unfold spec_IsRecurrent.f; exact zm13
def impl_IsRecurrent.l0 : Nat → List Int → Int → List Int → List Int → Int → Int → Option (Bool)
 | 0, _, _, _, _, _, _ => none
 | k + 1, x1, x2, x8, x33, x34, x35 => if x35 < x34 then (if 0 ≤ x35 then (if x35 < (x33.length : Int) then (if x35 = x2 then (impl_IsRecurrent.l0 k x1 x2 x8 x33 x34 (wrap64 (x35 + 1))) else (if (rd x33 x35) = 1 then (impl_IsRecurrent.l0 k x1 x2 x8 x33 x34 (wrap64 (x35 + 1))) else (some false))) else (none)) else (none)) else ((impl_SameDivisor.f k x8 x1).bind fun t115 => (some t115))
def impl_IsRecurrent.f (k : Nat) (a0_0 : Int) (l0_1 : List (S54)) (l1 : List Int) (a2 : Int) : Option (Bool) := (impl_IsStable.f k a0_0 l0_1 l1 a2).bind fun t102 => (if t102 = true then ((impl_copyInts.f l1).bind fun t103 => ((impl_fire.f k a0_0 l0_1 t103 a2 1).bind fun t106 => (if 0 ≤ a2 then (if a2 < (t103.length : Int) then ((impl_stabilize.f k a0_0 l0_1 (t106.set (a2 : Int).toNat 0) a2).bind fun bt108 => (impl_IsRecurrent.l0 k l1 a2 bt108.1 bt108.2 (bt108.2.length : Int) 0)) else (none)) else (none)))) else (some false))
theorem impl_IsRecurrent.mono_l : ∀ k, (∀ y0 y1 y2 y3 y4 y5, LeO (impl_IsRecurrent.l0 k y0 y1 y2 y3 y4 y5) (impl_IsRecurrent.l0 (k + 1) y0 y1 y2 y3 y4 y5))
 | 0 => fun _ _ _ _ _ _ r h => by simp [impl_IsRecurrent.l0] at h
 | k + 1 => by
  have ih0 := impl_IsRecurrent.mono_l k
  ·intro y0 y1 y2 y3 y4 y5
   unfold impl_IsRecurrent.l0
   exact zm14
theorem impl_IsRecurrent.mono : ∀ a0 a1 a2 a3 k, LeO (impl_IsRecurrent.f k a0 a1 a2 a3) (impl_IsRecurrent.f (k + 1) a0 a1 a2 a3) := by
 intro a0 a1 a2 a3 k; have ih0 := impl_IsRecurrent.mono_l k; unfold impl_IsRecurrent.f; exact zm14
def spec_l11Full.f (k : Nat) (a0_0 : Int) (l0_1 : List (S54)) (l1 : List Int) (a2 : Int) : Option (List Int) := (spec_FullPile.f k a0_0 l0_1 a2).bind fun t102 => ((spec_l07Minus.f k t102 l1).bind fun t105 => (if 0 ≤ a2 then (if a2 < (t105.length : Int) then (some (t105.set (a2 : Int).toNat 0)) else (none)) else (none)))
theorem spec_l11Full.mono : ∀ a0 a1 a2 a3 k, LeO (spec_l11Full.f k a0 a1 a2 a3) (spec_l11Full.f (k + 1) a0 a1 a2 a3) := by
 intro a0 a1 a2 a3 k; unfold spec_l11Full.f; repeat' first | (with_reducible apply spec_FullPile.mono) | (with_reducible apply spec_l07Minus.mono) | (with_reducible exact LeO.refl _) | (with_reducible exact LeO.none _) | (with_reducible refine LeO.ite ?_ ?_) | (with_reducible refine LeO.bind ?_ (fun _ => ?_)) | apply spec_FullPile.mono | apply spec_l07Minus.mono | exact LeO.none _ | refine LeO.ite ?_ ?_ | refine LeO.bind ?_ (fun _ => ?_)
def spec_l11Class.f (k : Nat) (a0_0 : Int) (l0_1 : List (S54)) (l1 : List Int) (a2 : Int) : Option (List Int) := (spec_FullPile.f k a0_0 l0_1 a2).bind fun t102 => ((spec_l07Minus.f k t102 l1).bind fun t105 => ((spec_l05Reduce.f k a0_0 l0_1 t105 a2).bind fun bt108 => ((spec_l11Full.f k a0_0 l0_1 bt108.1 a2).bind fun t114 => (some t114))))
theorem spec_l11Class.mono : ∀ a0 a1 a2 a3 k, LeO (spec_l11Class.f k a0 a1 a2 a3) (spec_l11Class.f (k + 1) a0 a1 a2 a3) := by
 intro a0 a1 a2 a3 k; unfold spec_l11Class.f; repeat' first | (with_reducible apply spec_FullPile.mono) | (with_reducible apply spec_l05Reduce.mono) | (with_reducible apply spec_l07Minus.mono) | (with_reducible apply spec_l11Full.mono) | (with_reducible exact LeO.refl _) | (with_reducible exact LeO.none _) | (with_reducible refine LeO.ite ?_ ?_) | (with_reducible refine LeO.bind ?_ (fun _ => ?_)) | apply spec_FullPile.mono | apply spec_l05Reduce.mono | apply spec_l07Minus.mono | apply spec_l11Full.mono | exact LeO.none _ | refine LeO.ite ?_ ?_ | refine LeO.bind ?_ (fun _ => ?_)
def impl_recurrentOf.f (k : Nat) (a0_0 : Int) (l0_1 : List (S54)) (l1 : List Int) (a2 : Int) : Option (List Int) := (impl_FullPile.f k a0_0 l0_1 a2).bind fun t102 => ((impl_NegateDivisor.f k l1).bind fun t105 => ((impl_plus.f k t102 t105).bind fun t108 => ((impl_reduce.f k a0_0 l0_1 t108 a2).bind fun bt111 => ((impl_NegateDivisor.f k bt111.1).bind fun t117 => ((impl_plus.f k t102 t117).bind fun t120 => (if 0 ≤ a2 then (if a2 < (t120.length : Int) then (some (t120.set (a2 : Int).toNat 0)) else (none)) else (none)))))))
theorem impl_recurrentOf.mono : ∀ a0 a1 a2 a3 k, LeO (impl_recurrentOf.f k a0 a1 a2 a3) (impl_recurrentOf.f (k + 1) a0 a1 a2 a3) := by
 intro a0 a1 a2 a3 k; unfold impl_recurrentOf.f; repeat' first | (with_reducible apply impl_FullPile.mono) | (with_reducible apply impl_NegateDivisor.mono) | (with_reducible apply impl_plus.mono) | (with_reducible apply impl_reduce.mono) | (with_reducible exact LeO.refl _) | (with_reducible exact LeO.none _) | (with_reducible refine LeO.ite ?_ ?_) | (with_reducible refine LeO.bind ?_ (fun _ => ?_)) | apply impl_FullPile.mono | apply impl_NegateDivisor.mono | apply impl_plus.mono | apply impl_reduce.mono | exact LeO.none _ | refine LeO.ite ?_ ?_ | refine LeO.bind ?_ (fun _ => ?_)
end Go.Proofs.Ytgobnfeahffnaab.P
end

section
namespace Go.Proofs.Ytgobnfeahffnaab.Cf
set_option linter.unusedVariables false
set_option linter.unusedSimpArgs false
open Go.RowKit Go.Proofs.YtgobnfeahffnaabW.PrintWords Go.Proofs.Ytgobnfeahffnaab.P
def zOk (n : Int) (es : List E) (d : List Int) : Bool := dOk n es d && (d.sum == 0)
theorem zOk_all {n : Int} {es : List E} {d : List Int} (h : zOk n es d = true) : ∃ m : Nat, n = m ∧ Gr m es 0 ∧ d.length = m ∧ Bd d 60 ∧ d.sum = 0 := by
  unfold zOk at h
  rw [Bool.and_eq_true] at h
  obtain ⟨m, rfl, g, h1, _, hl, hb, _⟩ := dOk_all h.1
  exact ⟨m, rfl, g 0 (by omega) (by omega), hl, hb, by simpa using h.2⟩
theorem specZero (n : Int) (es : List E) (d : List Int) (hl : d.length ≤ 1048576) : Ep (fun k => spec_l09Zero.f k n es d) (· = zOk n es d) := by
  simp only [spec_l09Zero.f, zOk]
  refine Ep.bind (specDiv n es d hl) ?_
  rintro _ rfl
  refine Ep.ite (fun h => ?_) (fun h => Ep.now ?_)
  · obtain ⟨_, _, _, _, _, _, _, hm⟩ := dOk_all h
    refine Ep.bind (specSum d hl hm) ?_
    rintro _ rfl
    refine Ep.now ?_
    rw [h]
    rfl
  · have : dOk n es d = false := by simpa using h
    rw [this]
    rfl
theorem implZero (n : Int) (es : List E) (d : List Int) (hl : d.length ≤ 1048576) : Ep (fun k => impl_ofDegreeZero.f k n es d) (· = zOk n es d) := by
  simp only [impl_ofDegreeZero.f, zOk, impl_DegreeOf.f]
  refine Ep.bind (implDiv n es d hl) ?_
  rintro _ rfl
  refine Ep.ite (fun h => ?_) (fun h => Ep.now ?_)
  · obtain ⟨_, _, _, _, _, _, _, hm⟩ := dOk_all h
    refine Ep.bind (P := (· = d.sum)) (Ep.bind (implSum d hl hm) ?_) ?_
    · rintro _ rfl
      exact Ep.now rfl
    · rintro _ rfl
      refine Ep.now ?_
      rw [h]
      rfl
  · have : dOk n es d = false := by simpa using h
    rw [this]
    rfl
end Go.Proofs.Ytgobnfeahffnaab.Cf
end

section
namespace Go.Proofs.Ytgobnfeahffnaab.Cf
set_option linter.unusedVariables false
set_option linter.unusedSimpArgs false
open Go.Proofs.YtgobnfeahffnaabW.PrintWords
/-- Nothing at all is reduced, where all is joined. -/
theorem red_zero {n : Nat} {es : List E} (hj : Joined n es) {q : Int} (hq : 0 ≤ q ∧ q < n) {d : Int → Int} (hd : ∀ v : Int, 0 ≤ v → v < n → d v = 0) (hes : ∀ e ∈ es, EOk n e) : Red n es q d := by
  refine ⟨fun v h0 h1 _ => by rw [hd v h0 h1]; exact Int.le_refl _, fun S hS hx => ?_⟩
  obtain ⟨b, b0, b1, hb⟩ := hx
  have hc : Conn es q b := ((hj q hq.1 hq.2).symm).trans (hj b b0 b1)
  obtain ⟨u, w, hadj, hu, hw⟩ := exists_cut (S := fun x => S x = true) hc (by rw [hS]; simp) hb
  have hur := EsOk.adj hes hadj.symm
  refine ⟨u, hur.1, hur.2, hu, ?_⟩
  rw [hd u hur.1 hur.2]
  have hw' : S w = false := by simpa using hw
  have hnn : ∀ e ∈ es, 0 ≤ lapE (ind S) u e := by
    intro e _
    unfold lapE ind
    by_cases a : e.f0 = u
    · by_cases b : e.f1 = u
      · simp [a, b]
      · rw [if_pos a, if_neg b, a, hu]
        cases S e.f1 <;> simp
    · by_cases b : e.f1 = u
      · rw [if_neg a, if_pos b, b, hu]
        cases S e.f0 <;> simp
      · simp [a, b]
  obtain ⟨e, he, hx⟩ := hadj
  have h1 := sumE_term hnn he
  have h2 : 1 ≤ lapE (ind S) u e := by
    have hk := hes e he
    unfold EOk at hk
    unfold lapE ind
    rcases hx with ⟨x0, x1⟩ | ⟨x0, x1⟩
    · rw [if_pos x0, if_neg (show ¬ e.f1 = u by omega), x0, x1, hu, hw']; simp
    · rw [if_neg (show ¬ e.f0 = u by omega), if_pos x1, x0, x1, hu, hw']; simp
  unfold lap
  omega
/-- x is reduced (at 0), and of the class of k a. -/
def Mul (n : Nat) (es : List E) (a : List Int) (k : Int) (x : List Int) : Prop :=
  x.length = n ∧ Red n es 0 (rd x) ∧ ∃ s : Int → Int, ∀ v : Int, 0 ≤ v → v < n → rd x v = k * rd a v - lap es s v
theorem Mul.unique {n : Nat} (h1 : 1 ≤ n) {es : List E} (hes : ∀ e ∈ es, EOk n e) {a : List Int} {k : Int} {x y : List Int} (hx : Mul n es a k x) (hy : Mul n es a k y) : x = y := by
  obtain ⟨xl, xr, s, hs⟩ := hx
  obtain ⟨yl, yr, t, ht⟩ := hy
  have := red_unique hes (q := 0) ⟨by omega, by omega⟩ xr yr (s := fun v => t v - s v) (fun v v0 v1 => by
    rw [lap_sub, hs v v0 v1, ht v v0 v1]; omega)
  exact (Rep.self xl).ext ((Rep.self yl).congr fun w h0 h1 => this.2 w h0 h1)
theorem Mul.zero {n : Nat} {es : List E} {a : List Int} (hz : Red n es 0 (rd (List.replicate n 0))) : Mul n es a 0 (List.replicate n 0) :=
  ⟨by simp, hz, fun _ => 0, fun v _ _ => by rw [rd_replicate, lap_const (c := 0) (fun _ _ => ⟨rfl, rfl⟩)]; omega⟩
theorem Mul.one {n : Nat} {es : List E} {a : List Int} {r : List Int × List Int} (h : Reduced n es 0 a r) : Mul n es a 1 r.1 :=
  ⟨h.1, h.2.2.1, rd r.2, fun v v0 v1 => by rw [h.2.2.2.2 v v0 v1]; omega⟩
theorem Mul.add {n : Nat} {es : List E} {a c : List Int} {j k : Int} {x y : List Int} (hx : Mul n es a j x) (hy : Mul n es a k y) (hc : ∀ v : Int, 0 ≤ v → v < n → rd c v = rd x v + rd y v) {r : List Int × List Int} (h : Reduced n es 0 c r) : Mul n es a (j + k) r.1 := by
  obtain ⟨_, _, s, hs⟩ := hx
  obtain ⟨_, _, t, ht⟩ := hy
  refine ⟨h.1, h.2.2.1, fun v => s v + t v + rd r.2 v, fun v v0 v1 => ?_⟩
  rw [h.2.2.2.2 v v0 v1, hc v v0 v1, hs v v0 v1, ht v v0 v1, lap_add, lap_add, Int.add_mul]
  omega
/-- A multiple of what has degree 0 is small. -/
theorem Mul.bd {n : Nat} (hn : 1 ≤ n ∧ n ≤ 6) {es : List E} (hes : ∀ e ∈ es, EOk n e) (hel : es.length ≤ 12) {a : List Int} (ha : a.length = n) (h0 : a.sum = 0) {k : Int} {x : List Int} (h : Mul n es a k x) : x.sum = 0 ∧ ∀ v : Int, 0 ≤ v → v < n → -72 ≤ rd x v ∧ rd x v ≤ 11 := by
  obtain ⟨xl, xr, s, hs⟩ := h
  have hsum : x.sum = 0 := by
    rw [sum_rd n x xl, sumN_congr (g := fun i : Nat => k * rd a i + lap es (fun v => - s v) i) (fun i hi => by
      rw [lap_neg]
      have := hs i (by omega) (by omega)
      omega), sumN_add, lap_sum hes]
    rw [sum_rd n a ha] at h0
    have : sumN n (fun i => k * rd a (i : Int)) = k * sumN n (fun i => rd a (i : Int)) := by
      clear hs xl xr ha h0 hes
      induction n with
      | zero => simp [sumN]
      | succ m ih =>
        simp only [sumN]
        by_cases hm : 1 ≤ m
        · rw [ih ⟨hm, by omega⟩, Int.mul_add]
        · obtain rfl : m = 0 := by omega
          simp [sumN]
    rw [this, h0]
    omega
  refine ⟨hsum, fun v v0 v1 => ?_⟩
  by_cases hv : v = 0
  · subst hv
    have := xr.at_q hn.2 hes hel (by omega)
    rw [← sum_rd n x xl, hsum] at this
    omega
  · have := xr.lt hes v0 v1 hv
    have := val_le es v
    omega
end Go.Proofs.Ytgobnfeahffnaab.Cf
end

section
namespace Go.Proofs.Ytgobnfeahffnaab.Cf
set_option linter.unusedVariables false
set_option linter.unusedSimpArgs false
open Go.RowKit Go.Proofs.YtgobnfeahffnaabW.PrintWords Go.Proofs.Ytgobnfeahffnaab.P
theorem zeros_red {n : Nat} {es : List E} (g : Gr n es 0) : Red n es 0 (rd (List.replicate n 0)) := red_zero g.hj g.hq (fun v _ _ => rd_replicate n v) g.hes
theorem Mul.bd1 {n : Nat} {es : List E} (g : Gr n es 0) {a : List Int} (ha : a.length = n) (h0 : a.sum = 0) {k : Int} {x : List Int} (h : Mul n es a k x) : Bd x 100 := fun w w0 w1 => by
  have := (h.bd ⟨g.n1, g.n6⟩ g.hes g.hel ha h0).2 w w0 (by have := h.1; omega)
  omega
theorem Mul.plus {n : Nat} {es : List E} (g : Gr n es 0) {a : List Int} (ha : a.length = n) (h0 : a.sum = 0) {j k : Int} {x y : List Int} (hx : Mul n es a j x) (hy : Mul n es a k y) : Mul n es a (j + k) (reduceS n es 0 (plusL x y)).1 := by
  have hl : (plusL x y).length = n := by rw [plusL_len]; exact hx.1
  have hb : Bd (plusL x y) 1000 := (plusL_bd (by rw [hx.1, hy.1]) (hx.bd1 g ha h0) (hy.bd1 g ha h0)).mono (by omega)
  refine hx.add hy (c := plusL x y) (fun v v0 v1 => ?_) (reduceS_ok g hl hb)
  unfold plusL
  exact (repL_rep x.length _).2 v v0 (by rw [hx.1]; exact v1)
open Classical in
noncomputable def mulS (n : Nat) (es : List E) (a : List Int) (k : Int) : List Int := if h : ∃ x, Mul n es a k x then Classical.choose h else []
theorem Mul.eq {n : Nat} {es : List E} (g : Gr n es 0) {a : List Int} {k : Int} {x : List Int} (h : Mul n es a k x) : x = mulS n es a k := by
  have he : ∃ x, Mul n es a k x := ⟨x, h⟩
  unfold mulS
  rw [dif_pos he]
  exact h.unique g.n1 g.hes (Classical.choose_spec he)
theorem mulS_len {n : Nat} (es : List E) (a : List Int) (k : Int) (hn : n ≤ 6) : (mulS n es a k).length ≤ 6 := by
  unfold mulS
  split
  · rename_i he
    have := (Classical.choose_spec he).1
    omega
  · simp
theorem negL_sum {a : List Int} (h0 : a.sum = 0) : (negL a).sum = 0 := by
  rw [sum_rd a.length (negL a) (negL_len a), sumN_congr (g := fun i : Nat => - rd a (i : Int)) (fun i hi => (repL_rep a.length _).2 i (by omega) (by omega))]
  rw [sum_rd a.length a rfl] at h0
  have h3 : sumN a.length (fun i => - rd a (i : Int)) + sumN a.length (fun i => rd a (i : Int)) = 0 := by
    rw [← sumN_add]
    have := sumN_zero a.length
    rw [← this]
    apply sumN_congr
    intro i _
    omega
  omega
/-- The divisor itself, or its negative. -/
def signL (a : List Int) (k : Int) : List Int := if k < 0 then negL a else a
theorem signL_ok {n : Nat} {a : List Int} (ha : a.length = n) (hb : Bd a 60) (h0 : a.sum = 0) (k : Int) : (signL a k).length = n ∧ Bd (signL a k) 60 ∧ (signL a k).sum = 0 := by
  unfold signL
  split
  · exact ⟨by rw [negL_len]; exact ha, negL_bd hb, negL_sum h0⟩
  · exact ⟨ha, hb, h0⟩
theorem specTimes_l0 {n : Nat} {es : List E} (g : Gr n es 0) {b y : List Int} (hb : b.length = n) (h0 : b.sum = 0) (hy : Mul n es b 1 y) (N : Nat) (hN : N ≤ 1000) : ∀ (d k : Nat) (x : List Int), k + d = N → Mul n es b k x → Ep (fun f => spec_TimesClass.l0 f (N : Int) y x (k : Int) (n : Int) es) (· = (mulS n es b N, true)) := by
  have hn := g.n6
  intro d
  induction d with
  | zero =>
    intro k x hk hx
    obtain rfl : k = N := by omega
    refine Ep.up ?_
    simp only [spec_TimesClass.l0]
    refine Ep.neg (by omega) (Ep.now ?_)
    rw [hx.eq g]
  | succ d ih =>
    intro k x hk hx
    have hxl := hx.1
    have hyl := hy.1
    have bx := hx.bd1 g hb h0
    have bY := hy.bd1 g hb h0
    refine Ep.up ?_
    simp only [spec_TimesClass.l0]
    refine Ep.pos (by omega) ?_
    refine Ep.bind (specAdd x y (by omega) (by omega) (bx.mono (by omega)) (bY.mono (by omega))) ?_
    rintro _ rfl
    refine Ep.bind (specReduce g (d := plusL x y) (by rw [plusL_len]; omega) ((plusL_bd (by omega) bx bY).mono (by omega))) ?_
    rintro _ rfl
    rw [wrap_succ (by omega)]
    exact ih (k + 1) _ (by omega) (hx.plus g hb h0 hy)
theorem implTimes_l0 {n : Nat} {es : List E} (g : Gr n es 0) {b : List Int} (hb : b.length = n) (h0 : b.sum = 0) (N : Nat) : ∀ (D m : Nat) (e w : Nat) (x y : List Int), m ≤ D → m ≤ 1000 → Mul n es b e x → Mul n es b w y → e + w * m = N → Ep (fun f => impl_TimesClass.l0 f (m : Int) x y (n : Int) es) (· = (mulS n es b N, true)) := by
  have hn := g.n6
  intro D
  induction D with
  | zero =>
    intro m e w x y hm _ hx _ he
    obtain rfl : m = 0 := by omega
    refine Ep.up ?_
    simp only [impl_TimesClass.l0]
    refine Ep.neg (by omega) (Ep.now ?_)
    rw [Nat.mul_zero, Nat.add_zero] at he
    subst he
    rw [hx.eq g]
  | succ D ih =>
    intro m e w x y hm hm2 hx hy he
    have hxl := hx.1
    have hyl := hy.1
    have bx := hx.bd1 g hb h0
    have bY := hy.bd1 g hb h0
    refine Ep.up ?_
    simp only [impl_TimesClass.l0]
    refine Ep.ite (fun hp => ?_) (fun hp => Ep.now ?_)
    · rw [show Int.tmod (m : Int) 2 = ((m % 2 : Nat) : Int) from rfl, show Int.tdiv (m : Int) 2 = ((m / 2 : Nat) : Int) from rfl, wrap_id (x := ((m / 2 : Nat) : Int)) (by omega) (by omega)]
      have hyy := hy.plus g hb h0 hy
      have e2 : (w : Int) + (w : Int) = ((2 * w : Nat) : Int) := by omega
      rw [e2] at hyy
      have hw2 : 2 * w * (m / 2) = w * (2 * (m / 2)) := by rw [Nat.mul_comm 2 w, Nat.mul_assoc]
      refine Ep.ite (fun h1 => ?_) (fun h1 => ?_)
      · have hxy := hx.plus g hb h0 hy
        have e3 : (e : Int) + (w : Int) = ((e + w : Nat) : Int) := by omega
        rw [e3] at hxy
        refine Ep.bind (implPlus x y (by omega) (by omega) (bx.mono (by omega)) (bY.mono (by omega))) ?_
        rintro _ rfl
        refine Ep.bind (implReduce g (d := plusL x y) (by rw [plusL_len]; omega) ((plusL_bd (by omega) bx bY).mono (by omega))) ?_
        rintro _ rfl
        refine Ep.bind (implPlus y y (by omega) (by omega) (bY.mono (by omega)) (bY.mono (by omega))) ?_
        rintro _ rfl
        refine Ep.bind (implReduce g (d := plusL y y) (by rw [plusL_len]; omega) ((plusL_bd (by omega) bY bY).mono (by omega))) ?_
        rintro _ rfl
        refine ih (m / 2) (e + w) (2 * w) _ _ (by omega) (by omega) hxy hyy ?_
        have h5 : m = 2 * (m / 2) + 1 := by omega
        rw [hw2]
        rw [h5, Nat.mul_add, Nat.mul_one] at he
        omega
      · refine Ep.bind (implPlus y y (by omega) (by omega) (bY.mono (by omega)) (bY.mono (by omega))) ?_
        rintro _ rfl
        refine Ep.bind (implReduce g (d := plusL y y) (by rw [plusL_len]; omega) ((plusL_bd (by omega) bY bY).mono (by omega))) ?_
        rintro _ rfl
        refine ih (m / 2) e (2 * w) _ _ (by omega) (by omega) hx hyy ?_
        have h5 : 2 * (m / 2) = m := by omega
        rw [hw2, h5]
        exact he
    · obtain rfl : m = 0 := by omega
      rw [Nat.mul_zero, Nat.add_zero] at he
      subst he
      rw [hx.eq g]
noncomputable def timO (n : Int) (es : List E) (a : List Int) (k : Int) : List Int × Bool := if (zOk n es a && decide (-1000 ≤ k ∧ k ≤ 1000)) = true then (mulS n.toNat es (signL a k) (k.natAbs : Nat), true) else ([], false)
theorem timO_len (n : Int) (es : List E) (a : List Int) (k : Int) : (timO n es a k).1.length ≤ 6 := by
  unfold timO
  split
  · rename_i h
    rw [Bool.and_eq_true] at h
    obtain ⟨m, rfl, g, _⟩ := zOk_all h.1
    exact mulS_len es _ _ g.n6
  · simp
theorem specTim (n : Int) (es : List E) (a : List Int) (k : Int) (hl : a.length ≤ 1048576) : Ep (fun f => spec_TimesClass.f f n es a k) (· = timO n es a k) := by
  simp only [spec_TimesClass.f, timO]
  refine Ep.bind (specZero n es a hl) ?_
  rintro _ rfl
  refine Ep.ite (fun h => ?_) (fun h => ?_)
  · obtain ⟨m, rfl, g, hla, hba, h0⟩ := zOk_all h
    rw [h]
    refine Ep.bind0 (l01In_eq _ _ _) (Ep.up ?_)
    simp only [spec_TimesClass.j0, Bool.true_and]
    refine Ep.ite (fun h2 => Ep.now ?_) (fun h2 => ?_)
    · have h3 : ¬ (-1000 ≤ k ∧ k ≤ 1000) := by
        intro y
        simp [y] at h2
      rw [if_neg (by rw [decide_eq_true_eq]; exact h3)]
    · have h3 : -1000 ≤ k ∧ k ≤ 1000 := by simpa using h2
      rw [if_pos (by rw [decide_eq_true_eq]; exact h3)]
      have hn := g.n6
      obtain ⟨sl, sb, s0⟩ := signL_ok hla hba h0 k
      have hsr := Mul.one (reduceS_ok g sl (sb.mono (by omega)))
      refine Ep.bind (specReduce g hla (hba.mono (by omega))) ?_
      rintro _ rfl
      refine Ep.ite (fun h4 => ?_) (fun h4 => ?_)
      · refine Ep.bind (specNeg a hl (hba.mono (by omega))) ?_
        rintro _ rfl
        refine Ep.bind (specReduce g (d := negL a) (by rw [negL_len]; exact hla) ((negL_bd hba).mono (by omega))) ?_
        rintro _ rfl
        refine Ep.up ?_
        simp only [spec_TimesClass.j1]
        refine Ep.pos (by omega) (Ep.pos (by omega) ?_)
        have e : signL a k = negL a := by unfold signL; rw [if_pos h4]
        rw [e] at hsr sl s0 ⊢
        have ek : wrap64 (-k) = ((k.natAbs : Nat) : Int) := by rw [wrap_id (by omega) (by omega)]; omega
        rw [ek]
        exact specTimes_l0 g sl s0 hsr k.natAbs (by omega) k.natAbs 0 _ (by omega) (Mul.zero (zeros_red g))
      · refine Ep.up ?_
        simp only [spec_TimesClass.j1]
        refine Ep.pos (by omega) (Ep.pos (by omega) ?_)
        have e : signL a k = a := by unfold signL; rw [if_neg h4]
        rw [e] at hsr sl s0 ⊢
        obtain ⟨N, rfl⟩ := Int.eq_ofNat_of_zero_le (a := k) (by omega)
        exact specTimes_l0 g sl s0 hsr N (by omega) N 0 _ (by omega) (Mul.zero (zeros_red g))
  · refine Ep.up ?_
    simp only [spec_TimesClass.j0]
    refine Ep.pos trivial (Ep.now ?_)
    have : zOk n es a = false := by simpa using h
    rw [this]
    rfl
theorem implTim (n : Int) (es : List E) (a : List Int) (k : Int) (hl : a.length ≤ 1048576) : Ep (fun f => impl_TimesClass.f f n es a k) (· = timO n es a k) := by
  simp only [impl_TimesClass.f, timO]
  refine Ep.bind (implZero n es a hl) ?_
  rintro _ rfl
  refine Ep.ite (fun h => ?_) (fun h => Ep.now ?_)
  · obtain ⟨m, rfl, g, hla, hba, h0⟩ := zOk_all h
    rw [h]
    refine Ep.bind0 (within_eq _ _ _) ?_
    simp only [Bool.true_and]
    refine Ep.ite (fun h2 => ?_) (fun h2 => Ep.now (by rw [if_neg h2]))
    rw [if_pos h2]
    have h3 : -1000 ≤ k ∧ k ≤ 1000 := by simpa using h2
    have hn := g.n6
    obtain ⟨sl, sb, s0⟩ := signL_ok hla hba h0 k
    have hsr := Mul.one (reduceS_ok g sl (sb.mono (by omega)))
    refine Ep.ite (fun h4 => ?_) (fun h4 => ?_)
    · refine Ep.bind (implNeg a hl (hba.mono (by omega))) ?_
      rintro _ rfl
      refine Ep.pos (by omega) (Ep.pos (by omega) ?_)
      refine Ep.bind (implReduce g (d := negL a) (by rw [negL_len]; exact hla) ((negL_bd hba).mono (by omega))) ?_
      rintro _ rfl
      have e : signL a k = negL a := by unfold signL; rw [if_pos h4]
      rw [e] at hsr sl s0 ⊢
      have ek : wrap64 (-k) = ((k.natAbs : Nat) : Int) := by rw [wrap_id (by omega) (by omega)]; omega
      rw [ek]
      exact implTimes_l0 g sl s0 k.natAbs k.natAbs k.natAbs 0 1 _ _ (Nat.le_refl _) (by omega) (Mul.zero (zeros_red g)) hsr (by omega)
    · refine Ep.pos (by omega) (Ep.pos (by omega) ?_)
      refine Ep.bind (implReduce g hla (hba.mono (by omega))) ?_
      rintro _ rfl
      have e : signL a k = a := by unfold signL; rw [if_neg h4]
      rw [e] at hsr sl s0 ⊢
      obtain ⟨N, rfl⟩ := Int.eq_ofNat_of_zero_le (a := k) (by omega)
      exact implTimes_l0 g sl s0 N N N 0 1 _ _ (Nat.le_refl _) (by omega) (Mul.zero (zeros_red g)) hsr (by omega)
  · have : zOk n es a = false := by simpa using h
    rw [this]
    rfl
end Go.Proofs.Ytgobnfeahffnaab.Cf
end

section
namespace Go.Proofs.Ytgobnfeahffnaab.Cf
set_option linter.unusedVariables false
set_option linter.unusedSimpArgs false
open Go.RowKit Go.Proofs.YtgobnfeahffnaabW.PrintWords Go.Proofs.Ytgobnfeahffnaab.P
def EWf (e : E) : Prop := Wf .i64 e.f0 ∧ Wf .i64 e.f1
theorem rdLE_get {es : List E} {i : Nat} (h : i < es.length) : rd_T56 es (i : Int) = es[i] := by simp [rd_T56, List.getD, h]
theorem szGraph_ok (n : Int) (es : List E) (a : Int) (ha : 0 ≤ a ∧ a ≤ 1048576) (hl : es.length ≤ 9223372036854775807) : ∃ t, laws_szGraph.f n es a = some t ∧ t ≤ 1048576 ∧ (¬ t < 0 → es.length ≤ 1048576) := by
  unfold laws_szGraph.f laws_szEdgeS.f
  rw [wrap_id (by omega) (by omega)]
  by_cases h : a - (es.length : Int) < 0
  · refine ⟨-1, ?_, by omega, by omega⟩
    rw [if_pos h]
    simp
  · refine ⟨a - es.length, ?_, by omega, by omega⟩
    rw [if_neg h]
    simp only [Option.bind_some]
    rw [if_neg h]
theorem toEdgeS_l0 (x0 : List E) (h : x0.length ≤ 1048576) : ∀ (d i : Nat) (x3 : List E), i + d = x0.length → x3.length = x0.length → (∀ j, j < i → x3[j]? = x0[j]?) → Ep (fun k => laws_toEdgeS.l0 k x0 x3 (i : Int)) (· = x0) := by
  intro d
  induction d with
  | zero =>
    intro i x3 hi hl hx
    refine Ep.up ?_
    simp only [laws_toEdgeS.l0]
    refine Ep.neg (by omega) (Ep.now ?_)
    apply List.ext_getElem?
    intro j
    by_cases hj : j < i
    · exact hx j hj
    · rw [List.getElem?_eq_none (by omega), List.getElem?_eq_none (by omega)]
  | succ d ih =>
    intro i x3 hi hl hx
    have hlt : i < x0.length := by omega
    refine Ep.up ?_
    simp only [laws_toEdgeS.l0]
    refine Ep.pos (by omega) (Ep.pos (by omega) ?_)
    rw [rdLE_get hlt, wrap_succ (by omega)]
    refine Ep.bind0 rfl (Ep.pos (by omega) ?_)
    refine ih (i + 1) _ (by omega) (by simpa using hl) ?_
    intro j hj
    rw [Int.toNat_natCast]
    by_cases e : i = j
    · subst e
      rw [List.getElem?_set_self (by omega), List.getElem?_eq_getElem (by omega)]
    · rw [List.getElem?_set_ne e]
      exact hx j (by omega)
theorem toGraph_ok (n : Int) (es : List E) (h : es.length ≤ 1048576) : Ep (fun k => laws_toGraph.f k n es) (· = (n, es)) := by
  simp only [laws_toGraph.f, laws_toEdgeS.f]
  refine Ep.bind (P := (· = es)) (Ep.pos (by omega) (Ep.pos (by simp; omega) ?_)) ?_
  · exact toEdgeS_l0 es h es.length 0 _ (by omega) (by simp) (fun j hj => by omega)
  · rintro _ rfl
    exact Ep.now rfl
theorem eqEdge_ok (a b : Int) : laws_eqEdge.f a b a b = some true := by simp [laws_eqEdge.f]
theorem eqEdgeS_l0 (x : List E) (h : x.length ≤ 1048576) : ∀ (d i : Nat), i + d = x.length → Ep (fun k => laws_eqEdgeS.l0 k x x (i : Int)) (· = true) := by
  intro d
  induction d with
  | zero =>
    intro i hi
    refine Ep.up ?_
    simp only [laws_eqEdgeS.l0]
    exact Ep.neg (by omega) (Ep.now rfl)
  | succ d ih =>
    intro i hi
    refine Ep.up ?_
    simp only [laws_eqEdgeS.l0]
    refine Ep.pos (by omega) (Ep.pos (by omega) (Ep.pos (by omega) ?_))
    rw [wrap_succ (by omega)]
    exact Ep.bind0 (eqEdge_ok _ _) (Ep.pos rfl (ih (i + 1) (by omega)))
theorem eqGraph_ok (n : Int) (es : List E) (h : es.length ≤ 1048576) : Ep (fun k => laws_eqGraph.f k n es n es) (· = true) := by
  simp only [laws_eqGraph.f]
  refine Ep.pos trivial (Ep.bind (P := (· = true)) ?_ ?_)
  · simp only [laws_eqEdgeS.f]
    exact Ep.pos trivial (eqEdgeS_l0 es h es.length 0 (by omega))
  · rintro _ rfl
    exact Ep.pos rfl (Ep.now rfl)
theorem markEdgeS_l0 (n : Nat) (hn : n ≤ 1048576) {B : Int} (hB : B ≤ 1099511627776) : ∀ (d i : Nat) (x : List E) (a : Int), i + d = n → x.length = n → 0 ≤ a → a + 2 * d ≤ B → Ep (fun k => laws_markEdgeS.l0 k x a (i : Int)) (fun r => 0 ≤ r.1 ∧ r.1 ≤ B) := by
  intro d
  induction d with
  | zero =>
    intro i x a hi hx h0 ha
    refine Ep.up ?_
    simp only [laws_markEdgeS.l0]
    exact Ep.neg (by omega) (Ep.now ⟨h0, by omega⟩)
  | succ d ih =>
    intro i x a hi hx h0 ha
    refine Ep.up ?_
    simp only [laws_markEdgeS.l0]
    refine Ep.pos (by omega) (Ep.pos (by omega) (Ep.bind0 rfl ?_))
    rw [wrap_succ (by omega), wrap_id (x := a + 1) (by omega) (by omega), wrap_id (x := a + 1 + 1) (by omega) (by omega)]
    exact ih (i + 1) _ _ (by omega) (by simpa using hx) (by omega) (by omega)
theorem markGraph_ok (n : Int) (es : List E) (a : Int) (h : es.length ≤ 1048576) (ha : 0 ≤ a ∧ a ≤ 1000) : Ep (fun k => laws_markGraph.f k n es a) (fun r => 0 ≤ r.1 ∧ r.1 ≤ 3000000) := by
  have := markEdgeS_l0 es.length h (B := 3000000) (by omega) es.length 0 es a (by omega) rfl ha.1 (by omega)
  simp only [laws_markGraph.f, laws_markEdgeS.f]
  refine Ep.bind this ?_
  intro r hr
  exact Ep.now hr
theorem law_FnExactTimesClass (n : Int) (es : List E) (l : List Int) (q : Int) (hn : Wf .i64 n) (hes : SL EWf es) (wl : SL (Wf .i64) l) (wq : Wf .i64 q) : Ep (fun k => laws_FnExactTimesClass.f k n es l q) (· = true) := by
  have hr0 : ((timO n es l q).1).length ≤ 1048576 := by have := timO_len n es l q; omega
  simp only [laws_FnExactTimesClass.f]
  refine Ep.ite (fun _ => Ep.now rfl) (fun hcl => ?_)
  have hl : l.length ≤ 1048576 := by omega
  obtain ⟨t, ht, _, h2⟩ := szGraph_ok n es 1048576 (by omega) hes.1
  refine Ep.bind0 ht (Ep.ite (fun _ => Ep.now rfl) (fun hc2 => ?_))
  have hel := h2 hc2
  repeat (first
    | exact Ep.now rfl
    | (refine Ep.bind (toGraph_ok _ _ hel) ?_; rintro _ rfl)
    | (refine Ep.bind (eqGraph_ok _ _ hel) ?_; rintro _ rfl)
    | (refine Ep.bind (toIntS_ok _ hl) ?_; rintro _ rfl)
    | (refine Ep.bind (eqIntS_ok _ hr0) ?_; rintro _ rfl)
    | (refine Ep.bind (eqIntS_ok _ hl) ?_; rintro _ rfl)
    | (refine Ep.bind (specTim _ _ _ _ hl) ?_; rintro _ rfl)
    | (refine Ep.bind (implTim _ _ _ _ hl) ?_; rintro _ rfl)
    | (refine Ep.bind (heldIntS_ok _ _ hr0 (by first | omega | (simp; omega))) ?_; rintro _ rfl)
    | (refine Ep.bind (markIntS_ok _ _ hr0 (by first | omega | (simp; omega))) ?_; rintro _ rfl)
    | (refine Ep.bind (markIntS_ok _ _ hl (by first | omega | (simp; omega))) ?_; rintro _ rfl)
    | (refine Ep.bind (markGraph_ok _ _ 1 hel (by omega)) ?_; intro r hr0_)
    | refine Ep.pos rfl ?_
    | refine Ep.pos trivial ?_
    | refine Ep.neg (by simp; omega) ?_
    | refine Ep.neg (by omega) ?_
    | refine Ep.neg (by simp) ?_
    | (refine Ep.up ?_; simp only [laws_FnExactTimesClass.j0])
    | (refine Ep.up ?_; simp only [laws_FnExactTimesClass.j1])
    | (refine Ep.up ?_; simp only [laws_FnExactTimesClass.j2]))
end Go.Proofs.Ytgobnfeahffnaab.Cf
end

section
namespace Go.Proofs.Ytgobnfeahffnaab.Cf
set_option linter.unusedVariables false
set_option linter.unusedSimpArgs false
open Go.RowKit Go.ChangeShapes Go.WideShapes Go.Deep Go.Joins Go.Proofs.YtgobnfeahffnaabW.PrintWords
section
variable {H : Type} {enc : TypeId × Value → H} {P : Program} {w : World} {base : Nat} {spare : Nat → Bool} {held : Bool}
/-- A slice, whatever its elements are, if each of them can be told. -/
theorem trod_C {α : Type} {d : Kd α} {Q : α → Prop} (hd : Inhabited α) {t e : TypeId} {fuel : Nat} {cs : List Value} {x : DataW H × List MemPlace} (ht : P.underlying t = some (.slice e)) (hsz : P.cellsOf e = d.sz)
    (hel : ∀ (n : Nat) (cs : List Value) (y : DataW H × List MemPlace), DataW.trod enc P w base spare held n e cs = some y → ∃ a : α, d.K w a cs ∧ Q a)
    (h : DataW.trod enc P w base spare held fuel t cs = some x) : ∃ A len cap xs, cs = [.slice A len cap] ∧ xs.length = len ∧ len ≤ cap ∧ Kd.C d w A len xs ∧ SL Q xs := by
  rcases open_slice ht h with ⟨rfl, _⟩ | ⟨a, len, cap, m, n, D, Pl, rfl, _, hl, hm, hmm, _, hx⟩
  · exact ⟨none, 0, 0, [], rfl, rfl, Nat.le_refl _, ⟨rfl, by omega, fun hn => by omega⟩, by simp, fun x hx => by cases hx⟩
  · have hlm : len ≤ m := by rw [hmm]; split <;> omega
    obtain ⟨X, hX⟩ := choose_lt (α := α) (n := len) (p := fun i z => Q z ∧ ∃ c, c.length = d.sz ∧ d.K w z c ∧ ∀ j u, c[j]? = some u → w.cell? (a.add (i * d.sz + j)) = some u) (fun i hi => by
      obtain ⟨cs', h1, h2⟩ := hx i (by omega)
      obtain ⟨z, hz, hq⟩ := hel n cs' _ h2
      obtain ⟨_, hlen, hc⟩ := World.cells?_some h1
      refine ⟨z, hq, cs', by rw [hlen, hsz], hz, fun j u hj => ?_⟩
      have hjl : j < cs'.length := by
        apply Classical.byContradiction
        intro hc
        rw [List.getElem?_eq_none (by omega)] at hj
        cases hj
      have := hc j (by omega)
      rw [Deep.add_add, hsz] at this
      rw [this, hj])
    refine ⟨some a, len, cap, (List.range len).map X, rfl, by simp, hl, ⟨by simp, ?_, fun _ => ⟨a, rfl, fun j p hj => ?_⟩⟩, by simp; unfold maxLen at hm; omega, fun x hx => ?_⟩
    · unfold maxLen at hm
      omega
    · have hjl : j < len := by
        apply Classical.byContradiction
        intro hc
        rw [List.getElem?_eq_none (by simp; omega)] at hj
        cases hj
      have : p = X j := by
        rw [List.getElem?_eq_getElem (by simpa using hjl)] at hj
        simpa using hj.symm
      subst this
      exact (hX j hjl).2
    · obtain ⟨i, hi, rfl⟩ := List.mem_map.1 hx
      exact (hX i (List.mem_range.1 hi)).1
theorem el_int {k : IntKind} {e : TypeId} (he : P.underlying e = some (.int k)) : ∀ (n : Nat) (cs : List Value) (y : DataW H × List MemPlace), DataW.trod enc P w base spare held n e cs = some y → ∃ a : Int, (Kd.int k).K w a cs ∧ Wf k a := by
  intro n cs y h
  obtain ⟨a, rfl, _, hw⟩ := DataW.trod_int he h
  exact ⟨a, rfl, hw⟩
/-- A struct of two numbers. -/
theorem el_pair {k0 k1 : IntKind} {e : TypeId} {f0 f1 : Field} (he : P.underlying e = some (.struct #[f0, f1])) (ce : P.cellsOf e = 2) (o0 : f0.offset = 0) (o1 : f1.offset = 1) (c0 : P.cellsOf f0.type = 1) (c1 : P.cellsOf f1.type = 1)
    (u0 : P.underlying f0.type = some (.int k0)) (u1 : P.underlying f1.type = some (.int k1)) :
    ∀ (n : Nat) (cs : List Value) (y : DataW H × List MemPlace), DataW.trod enc P w base spare held n e cs = some y → ∃ a b : Int, cs = [.int k0 a, .int k1 b] ∧ Wf k0 a ∧ Wf k1 b := by
  intro n cs y h
  obtain ⟨y0, y1, m, _, hl, h0, h1⟩ := trod_struct2 he h
  rw [ce] at hl
  rw [o0, c0] at h0
  rw [o1, c1] at h1
  match cs, hl with
  | [a, b], _ =>
    obtain ⟨x, hx, _, wx⟩ := DataW.trod_int u0 h0
    obtain ⟨z, hz, _, wz⟩ := DataW.trod_int u1 h1
    simp at hx hz
    subst hx; subst hz
    exact ⟨x, z, rfl, wx, wz⟩
/-- A slice that comes in. -/
theorem arg_slice {α : Type} {d : Kd α} {Q : α → Prop} (hd : Inhabited α) {t e : TypeId} {a : Option Addr} {len cap : Nat} {x : DataW H} {ps : List MemPlace} (ht : P.underlying t = some (.slice e)) (hsz : P.cellsOf e = d.sz)
    (hel : ∀ (n : Nat) (cs : List Value) (y : DataW H × List MemPlace), DataW.trod enc P w base spare held n e cs = some y → ∃ a : α, d.K w a cs ∧ Q a)
    (h : DataW.Trod enc P w base spare held t (.slice a len cap) x ps) : ∃ xs : List α, xs.length = len ∧ len ≤ cap ∧ Kd.C d w a len xs ∧ SL Q xs := by
  obtain ⟨fuel, hf⟩ := h
  obtain ⟨A, l, c, xs, hcs, hl, hc, hC, hq⟩ := trod_C hd ht hsz hel hf
  simp [Value.cells] at hcs
  obtain ⟨rfl, rfl, rfl⟩ := hcs
  exact ⟨xs, hl, hc, hC, hq⟩
/-- A struct of a number and a slice that comes in. -/
theorem arg_graph {α : Type} {d : Kd α} {Q : α → Prop} (hd : Inhabited α) {r : Reach} {b0 : Nat} {t e : TypeId} {f0 f1 : Field} {v : Value} {x : DataW H} {p : List MemPlace} (hs : P.underlying t = some (.struct #[f0, f1])) (hone : oneCellFields P #[f0, f1] = true) (hC : P.cellsOf t = 2)
    (u0 : P.underlying f0.type = some (.int .i64)) (u1 : P.underlying f1.type = some (.slice e)) (hsz : P.cellsOf e = d.sz)
    (hel : ∀ (n : Nat) (cs : List Value) (y : DataW H × List MemPlace), DataW.trod enc P w base spare held n e cs = some y → ∃ a : α, d.K w a cs ∧ Q a)
    (hv : Value.okWide P w r b0 t v) (h : DataW.Trod enc P w base spare held t v x p) : ∃ n a len cap, ∃ xs : List α, v = .agg #[.int .i64 n, .slice a len cap] ∧ Wf .i64 n ∧ xs.length = len ∧ len ≤ cap ∧ Kd.C d w a len xs ∧ SL Q xs := by
  obtain ⟨v0, v1, y0, y1, m, rfl, _, _, h0, h1⟩ := open_agg2 hs hone hC hv h
  obtain ⟨n, hn, _, hw⟩ := DataW.trod_int u0 h0
  obtain ⟨A, len, cap, xs, hcs, hl, hc, hx, hq⟩ := trod_C hd u1 hsz hel h1
  simp at hn hcs
  subst hn; subst hcs
  exact ⟨n, A, len, cap, xs, rfl, hw, hl, hc, hx, hq⟩
end
end Go.Proofs.Ytgobnfeahffnaab.Cf
end

section
namespace Go.Proofs.Ytgobnfeahffnaab.Cf
theorem and2 {a b : Bool} (h : a = true) (k : b = true) : (a && b) = true := by rw [h, k]; rfl
theorem iniS : Try.prog.initOrder.toList = ['h', 'a', 'r', 'n', 'e', 's', 's', ' ', '9', '4', 'e', '7', '8', '3', 'd', '9', '4', 'b', '7', 'd', '6', 'a', '5', '3', '4', '0', '9', '4', 'f', '0', 'b', 'a', 'd', '9', '6', 'e', '5', 'c', '3', 'a', '1', 'd', '7', 'a', 'e', 'e', 'f', '9', '7', '5', '3', 'e', 'c', '4', '8', '4', '5', 'c', 'a', 'd', '3', '5', '7', 'd', '2', '0', '6', 'f', '1', 'e', '3', 'f', ' ', 'c', 'u', 't', ' ', 'a', 't', ' ', 'l', 'o', 'o', 'p', '.', 'e', 'x', 'a', 'm', 'p', 'l', 'e', '/', 'g', '0', '0', '8', '4', '1', '/', 'l', 'a', 'w', 's', '.', 'F', 'n', 'E', 'x', 'a', 'c', 't', 'P', 'a', 'r', 'k', 'i', 'n', 'g', 'O', 'f', 'P', 'i', 'l', 'e', ' ', 'l', 'o', 'o', 'p', '.', 'e', 'x', 'a', 'm', 'p', 'l', 'e', '/', 'g', '0', '0', '8', '4', '1', '/', 'l', 'a', 'w', 's', '.', 'F', 'n', 'E', 'x', 'a', 'c', 't', 'T', 'i', 'm', 'e', 's', 'C', 'l', 'a', 's', 's', ' ', 'l', 'o', 'o', 'p', '.', 'e', 'x', 'a', 'm', 'p', 'l', 'e', '/', 'g', '0', '0', '8', '4', '1', '/', 'l', 'a', 'w', 's', '.', 'F', 'n', 'E', 'x', 'a', 'c', 't', 'R', 'e', 'c', 'u', 'r', 'r', 'e', 'n', 't', 'O', 'f', ' ', 'l', 'o', 'o', 'p', '.', 'e', 'x', 'a', 'm', 'p', 'l', 'e', '/', 'g', '0', '0', '8', '4', '1', '/', 'l', 'a', 'w', 's', '.', 'F', 'n', 'E', 'x', 'a', 'c', 't', 'I', 'n', 'v', 'e', 'r', 's', 'e', 'P', 'i', 'l', 'e'] := by
  have h : Try.prog.initOrder = String.ofList ['h', 'a', 'r', 'n', 'e', 's', 's', ' ', '9', '4', 'e', '7', '8', '3', 'd', '9', '4', 'b', '7', 'd', '6', 'a', '5', '3', '4', '0', '9', '4', 'f', '0', 'b', 'a', 'd', '9', '6', 'e', '5', 'c', '3', 'a', '1', 'd', '7', 'a', 'e', 'e', 'f', '9', '7', '5', '3', 'e', 'c', '4', '8', '4', '5', 'c', 'a', 'd', '3', '5', '7', 'd', '2', '0', '6', 'f', '1', 'e', '3', 'f', ' ', 'c', 'u', 't', ' ', 'a', 't', ' ', 'l', 'o', 'o', 'p', '.', 'e', 'x', 'a', 'm', 'p', 'l', 'e', '/', 'g', '0', '0', '8', '4', '1', '/', 'l', 'a', 'w', 's', '.', 'F', 'n', 'E', 'x', 'a', 'c', 't', 'P', 'a', 'r', 'k', 'i', 'n', 'g', 'O', 'f', 'P', 'i', 'l', 'e', ' ', 'l', 'o', 'o', 'p', '.', 'e', 'x', 'a', 'm', 'p', 'l', 'e', '/', 'g', '0', '0', '8', '4', '1', '/', 'l', 'a', 'w', 's', '.', 'F', 'n', 'E', 'x', 'a', 'c', 't', 'T', 'i', 'm', 'e', 's', 'C', 'l', 'a', 's', 's', ' ', 'l', 'o', 'o', 'p', '.', 'e', 'x', 'a', 'm', 'p', 'l', 'e', '/', 'g', '0', '0', '8', '4', '1', '/', 'l', 'a', 'w', 's', '.', 'F', 'n', 'E', 'x', 'a', 'c', 't', 'R', 'e', 'c', 'u', 'r', 'r', 'e', 'n', 't', 'O', 'f', ' ', 'l', 'o', 'o', 'p', '.', 'e', 'x', 'a', 'm', 'p', 'l', 'e', '/', 'g', '0', '0', '8', '4', '1', '/', 'l', 'a', 'w', 's', '.', 'F', 'n', 'E', 'x', 'a', 'c', 't', 'I', 'n', 'v', 'e', 'r', 's', 'e', 'P', 'i', 'l', 'e'] := by kernel_rfl
  exact (congrArg String.toList h).trans String.toList_ofList
theorem iniW : behindMainWord (wordsSigns Try.prog.initOrder.toList) = [['c', 'u', 't'], ['a', 't'], ['l', 'o', 'o', 'p', '.', 'e', 'x', 'a', 'm', 'p', 'l', 'e', '/', 'g', '0', '0', '8', '4', '1', '/', 'l', 'a', 'w', 's', '.', 'F', 'n', 'E', 'x', 'a', 'c', 't', 'P', 'a', 'r', 'k', 'i', 'n', 'g', 'O', 'f', 'P', 'i', 'l', 'e'], ['l', 'o', 'o', 'p', '.', 'e', 'x', 'a', 'm', 'p', 'l', 'e', '/', 'g', '0', '0', '8', '4', '1', '/', 'l', 'a', 'w', 's', '.', 'F', 'n', 'E', 'x', 'a', 'c', 't', 'T', 'i', 'm', 'e', 's', 'C', 'l', 'a', 's', 's'], ['l', 'o', 'o', 'p', '.', 'e', 'x', 'a', 'm', 'p', 'l', 'e', '/', 'g', '0', '0', '8', '4', '1', '/', 'l', 'a', 'w', 's', '.', 'F', 'n', 'E', 'x', 'a', 'c', 't', 'R', 'e', 'c', 'u', 'r', 'r', 'e', 'n', 't', 'O', 'f'], ['l', 'o', 'o', 'p', '.', 'e', 'x', 'a', 'm', 'p', 'l', 'e', '/', 'g', '0', '0', '8', '4', '1', '/', 'l', 'a', 'w', 's', '.', 'F', 'n', 'E', 'x', 'a', 'c', 't', 'I', 'n', 'v', 'e', 'r', 's', 'e', 'P', 'i', 'l', 'e']] := (congrArg (fun x => behindMainWord (wordsSigns x)) iniS).trans (by kernel_rfl)
theorem mk_cut {P : Program} {r : List (List Char)} (h : behindMainWord (wordsSigns P.initOrder.toList) = ['c', 'u', 't'] :: r) : P.make = some .cut := by
  unfold Program.make
  rw [h]
  rfl
theorem lf_cut {P : Program} {r : List (List Char)} (h : behindMainWord (wordsSigns P.initOrder.toList) = ['c', 'u', 't'] :: r) (k : (stripLifts liftWords (['c', 'u', 't'] :: r)).1 = []) : P.liftsFinal = false := by
  unfold Program.liftsFinal Program.headLifts
  rw [h]
  simp [k]
theorem en_cut {P : Program} {r : List (List Char)} (h : behindMainWord (wordsSigns P.initOrder.toList) = ['c', 'u', 't'] :: r) (k1 : (stripLifts liftWords (['c', 'u', 't'] :: r)).1 = []) (k2 : ((stripLifts liftWords (['c', 'u', 't'] :: r)).2.head? == some "cut".toList) = true) (h1 : P.laysLater = false) (h2 : P.bearsReflect = false) (h3 : P.doorFits [] = true) : P.mayEnter = true := by
  unfold Program.mayEnter
  rw [h]
  simp only [k1, k2, h1, h2, h3]
  simp
theorem make : Try.prog.make = some .cut := mk_cut iniW
theorem lifted : Try.prog.liftsFinal = false := lf_cut iniW (by kernel_rfl)
theorem enter : Try.prog.mayEnter = true := en_cut iniW (by kernel_rfl) (by kernel_rfl) (by kernel_rfl) (by kernel_rfl) (by kernel_rfl)
end Go.Proofs.Ytgobnfeahffnaab.Cf
end

