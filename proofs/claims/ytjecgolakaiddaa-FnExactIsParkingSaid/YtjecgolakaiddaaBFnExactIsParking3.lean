/- A part of the proof of FnExactIsParking. -/
import Derived.Test.YtjecgolakaiddaaBFnExactIsParking2
import Derived.Test.YtjecgolakaiddaaBFnExactIsParking0
import Derived.Test.YtjecgolakaiddaaBFnExactIsParking1
section
namespace Go.Proofs.Ytjecgolakaiddaa.P
open Go.RowKit Go.Proofs.YtjecgolakaiddaaW.PrintWords Go.Proofs.YtjecgolakaiddaaW.PrintLast Go.Proofs.YtjecgolakaiddaaW.PrintMore
attribute [local go_sem] max2_int min2_int max_two min_two max_three min_three max_four min_four
set_option linter.unusedVariables false
set_option linter.unusedSimpArgs false
def laws_FnExactIsParking.f (k : Nat) (a0_0 : Int) (l0_1 : List (S96)) (l1 : List Int) (a2 : Int) : Option (Bool) := if (l1.length : Int) > 1048576 then (some true) else ((laws_szGraph.f a0_0 l0_1 1048576).bind fun t102 => (if t102 < 0 then (some true) else ((laws_toGraph.f k a0_0 l0_1).bind fun bt103 => ((laws_toIntS.f k l1).bind fun t107 => ((spec_IsParking.f k bt103.1 bt103.2 t107 a2).bind fun t110 => ((laws_toGraph.f k a0_0 l0_1).bind fun bt111 => ((laws_toIntS.f k l1).bind fun t116 => ((impl_IsParking.f k bt111.1 bt111.2 t116 a2).bind fun t119 => (if (t119 != t110) = true then (none) else ((laws_toGraph.f k a0_0 l0_1).bind fun bt120 => ((laws_eqGraph.f k bt111.1 bt111.2 bt120.1 bt120.2).bind fun t124 => (if t124 = true then ((laws_toIntS.f k l1).bind fun t125 => ((laws_eqIntS.f k t116 t125).bind fun t128 => (if t128 = true then (some true) else (none)))) else (none)))))))))))))
theorem laws_FnExactIsParking.mono : ∀ a0 a1 a2 a3 k, LeO (laws_FnExactIsParking.f k a0 a1 a2 a3) (laws_FnExactIsParking.f (k + 1) a0 a1 a2 a3) := by
  intro a0 a1 a2 a3 k; unfold laws_FnExactIsParking.f
  repeat' first
      | (with_reducible exact impl_IsParking.mono _ _ _ _ _)
      | (with_reducible exact laws_eqGraph.mono _ _ _ _ _)
      | (with_reducible exact laws_eqIntS.mono _ _ _)
      | (with_reducible exact laws_toGraph.mono _ _ _)
      | (with_reducible exact laws_toIntS.mono _ _)
      | (with_reducible exact spec_IsParking.mono _ _ _ _ _)
      | (with_reducible exact LeO.refl _)
      | (with_reducible exact LeO.none _)
      | (with_reducible refine LeO.ite ?_ ?_)
      | (with_reducible refine LeO.bind ?_ (fun _ => ?_))
      | exact impl_IsParking.mono _ _ _ _ _
      | exact laws_eqGraph.mono _ _ _ _ _
      | exact laws_eqIntS.mono _ _ _
      | exact laws_toGraph.mono _ _ _
      | exact laws_toIntS.mono _ _
      | exact spec_IsParking.mono _ _ _ _ _
      | exact LeO.none _
      | refine LeO.ite ?_ ?_
      | refine LeO.bind ?_ (fun _ => ?_)
set_option maxHeartbeats 8000000 in
set_option maxRecDepth 100000 in
theorem laws_FnExactIsParking.calls (k : Nat) (a0_0 : Int) (A0_1 : Option Addr) (c0_1 : Nat) (l0_1 : List (S96)) (A1 : Option Addr) (c1 : Nat) (l1 : List Int) (a2 : Int) (r : Bool) (w : World) (hr0_1 : Kd.C k96 w A0_1 l0_1.length l0_1) (hc0_1 : l0_1.length ≤ c0_1) (hr1 : Kd.C (Kd.int .i64) w A1 l1.length l1) (hc1 : l1.length ≤ c1) (h : laws_FnExactIsParking.f k a0_0 l0_1 l1 a2 = some r) :
    Calls Try.prog 12 #[.agg #[.int .i64 a0_0, .slice A0_1 l0_1.length c0_1], .slice A1 l1.length c1, .int .i64 a2] w fun e w' => e = .returned (.bool r) ∧ Below w.heap.size w w' := by
  have hu33 := Try.underlying33; have hu38 := Try.underlying38; have HR0_1 := Aside0.mk hr0_1; have HC0_1 := Aside0.mk hc0_1; clear hr0_1 hc0_1; have HR1 := Aside0.mk hr1; have HC1 := Aside0.mk hc1; clear hr1 hc1; have HB := Aside0.mk (Below.refl w.heap.size w); have H : (if (l1.length : Int) > 1048576 then (some true) else ((laws_szGraph.f a0_0 l0_1 1048576).bind fun t102 => (if t102 < 0 then (some true) else ((laws_toGraph.f k a0_0 l0_1).bind fun bt103 => ((laws_toIntS.f k l1).bind fun t107 => ((spec_IsParking.f k bt103.1 bt103.2 t107 a2).bind fun t110 => ((laws_toGraph.f k a0_0 l0_1).bind fun bt111 => ((laws_toIntS.f k l1).bind fun t116 => ((impl_IsParking.f k bt111.1 bt111.2 t116 a2).bind fun t119 => (if (t119 != t110) = true then (none) else ((laws_toGraph.f k a0_0 l0_1).bind fun bt120 => ((laws_eqGraph.f k bt111.1 bt111.2 bt120.1 bt120.2).bind fun t124 => (if t124 = true then ((laws_toIntS.f k l1).bind fun t125 => ((laws_eqIntS.f k t116 t125).bind fun t128 => (if t128 = true then (some true) else (none)))) else (none)))))))))))))) = some r := h; clear h; by_cases c4 : (l1.length : Int) > 1048576
  · rw [if_pos c4] at H; have c4b0 : decide (1048576 < (l1.length : Int)) = true := decide_eq_true c4; have c4b1 : decide (1048576 < l1.length) = true := decide_eq_true (by omega); clear c4; obtain rfl := Option.some.inj H; go_enter Try.func12, Try.ntmps12; (go_wp2_with (first | ((with_reducible refine gate_dst (N := 3) rfl ?_); refine box_event ?hg (N := 3) ?hd (cs := #[.int .i64 a0_0, .slice A0_1 l0_1.length c0_1]) (t := 33) ?hr ?_; (case hd => rfl); (case hg => rfl); (case hr => first | (go_simp; done) | (go_simp; rfl)); intro gb101 hg w5 hbox hb; have n0_ := Aside0.mk (below_step zz1 hb); have n1_ := Aside0.mk (hbox); have n2_ := Aside0.mk ((zz7 : w.heap.size ≤ gb101)); have n3_ := Aside0.mk ((zz7 : w.heap.size ≤ gb101)); clear HB; have HB := n0_; have BK101 := n1_; have GW101 := n2_; have GE101 := n3_; clear n0_ n1_ n2_ n3_; clear hb hbox hg))); go_ret; exact ⟨by first | rfl | (simp [errW_none, errW_some] <;> rfl) | (simp [*, errW_none, errW_some] <;> rfl), by repeat (first | (with_reducible first | exact HB.out | apply below_alloc | apply pw_below_drewN | apply below_drew1 | refine below_set ?_ GE101.out) | exact HB.out)⟩
  rw [if_neg c4] at H; have c4b0 : decide (1048576 < (l1.length : Int)) = false := decide_eq_false c4; have c4b1 : decide (1048576 < l1.length) = false := decide_eq_false (by omega); clear c4; replace H := Option.bind_eq_some_iff.mp H; obtain ⟨t102, A60, H⟩ := H; replace H : (if t102 < 0 then (some true) else ((laws_toGraph.f k a0_0 l0_1).bind fun bt103 => ((laws_toIntS.f k l1).bind fun t107 => ((spec_IsParking.f k bt103.1 bt103.2 t107 a2).bind fun t110 => ((laws_toGraph.f k a0_0 l0_1).bind fun bt111 => ((laws_toIntS.f k l1).bind fun t116 => ((impl_IsParking.f k bt111.1 bt111.2 t116 a2).bind fun t119 => (if (t119 != t110) = true then (none) else ((laws_toGraph.f k a0_0 l0_1).bind fun bt120 => ((laws_eqGraph.f k bt111.1 bt111.2 bt120.1 bt120.2).bind fun t124 => (if t124 = true then ((laws_toIntS.f k l1).bind fun t125 => ((laws_eqIntS.f k t116 t125).bind fun t128 => (if t128 = true then (some true) else (none)))) else (none)))))))))))) = some r := H; have A6 := Aside0.mk A60; clear A60; by_cases c7 : t102 < 0
  · rw [if_pos c7] at H; have c7b0 : decide (t102 < 0) = true := decide_eq_true c7; clear c7; obtain rfl := Option.some.inj H; go_enter Try.func12, Try.ntmps12; (go_wp2_with (first | ((with_reducible refine gate_dst (N := 3) rfl ?_); refine box_event ?hg (N := 3) ?hd (cs := #[.int .i64 a0_0, .slice A0_1 l0_1.length c0_1]) (t := 33) ?hr ?_; (case hd => rfl); (case hg => rfl); (case hr => first | (go_simp; done) | (go_simp; rfl)); intro gb101 hg w8 hbox hb; have n0_ := Aside0.mk (below_step zz1 hb); have n1_ := Aside0.mk (hbox); have n2_ := Aside0.mk ((zz7 : w.heap.size ≤ gb101)); have n3_ := Aside0.mk ((zz7 : w.heap.size ≤ gb101)); clear HB; have HB := n0_; have BK101 := n1_; have GW101 := n2_; have GE101 := n3_; clear n0_ n1_ n2_ n3_; clear hb hbox hg; have hcz9_0 : w8.cell? ⟨gb101, 0, none⟩ = some (.int .i64 a0_0) := (blk_cell BK101.out 0).trans rfl; have hcz9_1 : w8.cell? ⟨gb101, 1, none⟩ = some (.slice A0_1 l0_1.length c0_1) := (blk_cell BK101.out 1).trans rfl; have hfz9_0 := blk_frozen BK101.out 0; have hfz9_1 := blk_frozen BK101.out 1) | ((with_reducible refine gate_callee (f := 41) rfl ?_); refine goesL_ (some 17) rfl rfl Try.func41 (by kernel_rfl) rfl #[.agg #[.int .i64 a0_0, .slice A0_1 l0_1.length c0_1], .int .i64 1048576] rfl zz3 ?_; (with_reducible refine (laws_szGraph.calls a0_0 _ _ l0_1 1048576 t102 _ ?side1 ?side2 A6.out).mono ?_); (case side1 => repeat (first | exact (Kd.C_below HR0_1.out HB.out) | (with_reducible refine Kd.C_alloc ?_ _) | (with_reducible refine Kd.C_drewN ?_ _) | (with_reducible refine Kd.C_drew ?_))); (case side2 => exact HC0_1.out); rintro e w10 ⟨rfl, hb⟩; refine ⟨_, rfl, ?_⟩; have n0_ := Aside0.mk (blk_below (g := gb101) (o := .cells #[.int .i64 a0_0, .slice A0_1 l0_1.length c0_1] 33 (0, 0)) zz2 hb); have n1_ := Aside0.mk (below_step zz0 hb); clear BK101; clear HB; have BK101 := n0_; have HB := n1_; clear n0_ n1_; (try clear hb); (try clear hb2); (try clear hk); (try clear hi)))); go_ret; exact ⟨by first | rfl | (simp [errW_none, errW_some] <;> rfl) | (simp [*, errW_none, errW_some] <;> rfl), by repeat (first | (with_reducible first | exact HB.out | apply below_alloc | apply pw_below_drewN | apply below_drew1 | refine below_set ?_ GE101.out) | exact HB.out)⟩
  rw [if_neg c7] at H; have c7b0 : decide (t102 < 0) = false := decide_eq_false c7; clear c7; replace H := Option.bind_eq_some_iff.mp H; obtain ⟨⟨t103, t104⟩, A110, H⟩ := H; replace H : ((laws_toIntS.f k l1).bind fun t107 => ((spec_IsParking.f k t103 t104 t107 a2).bind fun t110 => ((laws_toGraph.f k a0_0 l0_1).bind fun bt111 => ((laws_toIntS.f k l1).bind fun t116 => ((impl_IsParking.f k bt111.1 bt111.2 t116 a2).bind fun t119 => (if (t119 != t110) = true then (none) else ((laws_toGraph.f k a0_0 l0_1).bind fun bt120 => ((laws_eqGraph.f k bt111.1 bt111.2 bt120.1 bt120.2).bind fun t124 => (if t124 = true then ((laws_toIntS.f k l1).bind fun t125 => ((laws_eqIntS.f k t116 t125).bind fun t128 => (if t128 = true then (some true) else (none)))) else (none)))))))))) = some r := H; have A11 := Aside0.mk A110; clear A110; replace H := Option.bind_eq_some_iff.mp H; obtain ⟨t107, A120, H⟩ := H; replace H : ((spec_IsParking.f k t103 t104 t107 a2).bind fun t110 => ((laws_toGraph.f k a0_0 l0_1).bind fun bt111 => ((laws_toIntS.f k l1).bind fun t116 => ((impl_IsParking.f k bt111.1 bt111.2 t116 a2).bind fun t119 => (if (t119 != t110) = true then (none) else ((laws_toGraph.f k a0_0 l0_1).bind fun bt120 => ((laws_eqGraph.f k bt111.1 bt111.2 bt120.1 bt120.2).bind fun t124 => (if t124 = true then ((laws_toIntS.f k l1).bind fun t125 => ((laws_eqIntS.f k t116 t125).bind fun t128 => (if t128 = true then (some true) else (none)))) else (none))))))))) = some r := H; have A12 := Aside0.mk A120; clear A120; replace H := Option.bind_eq_some_iff.mp H; obtain ⟨t110, A130, H⟩ := H; replace H : ((laws_toGraph.f k a0_0 l0_1).bind fun bt111 => ((laws_toIntS.f k l1).bind fun t116 => ((impl_IsParking.f k bt111.1 bt111.2 t116 a2).bind fun t119 => (if (t119 != t110) = true then (none) else ((laws_toGraph.f k a0_0 l0_1).bind fun bt120 => ((laws_eqGraph.f k bt111.1 bt111.2 bt120.1 bt120.2).bind fun t124 => (if t124 = true then ((laws_toIntS.f k l1).bind fun t125 => ((laws_eqIntS.f k t116 t125).bind fun t128 => (if t128 = true then (some true) else (none)))) else (none)))))))) = some r := H; have A13 := Aside0.mk A130; clear A130; replace H := Option.bind_eq_some_iff.mp H; obtain ⟨⟨t111, t112⟩, A140, H⟩ := H; replace H : ((laws_toIntS.f k l1).bind fun t116 => ((impl_IsParking.f k t111 t112 t116 a2).bind fun t119 => (if (t119 != t110) = true then (none) else ((laws_toGraph.f k a0_0 l0_1).bind fun bt120 => ((laws_eqGraph.f k t111 t112 bt120.1 bt120.2).bind fun t124 => (if t124 = true then ((laws_toIntS.f k l1).bind fun t125 => ((laws_eqIntS.f k t116 t125).bind fun t128 => (if t128 = true then (some true) else (none)))) else (none))))))) = some r := H; have A14 := Aside0.mk A140; clear A140; replace H := Option.bind_eq_some_iff.mp H; obtain ⟨t116, A150, H⟩ := H; replace H : ((impl_IsParking.f k t111 t112 t116 a2).bind fun t119 => (if (t119 != t110) = true then (none) else ((laws_toGraph.f k a0_0 l0_1).bind fun bt120 => ((laws_eqGraph.f k t111 t112 bt120.1 bt120.2).bind fun t124 => (if t124 = true then ((laws_toIntS.f k l1).bind fun t125 => ((laws_eqIntS.f k t116 t125).bind fun t128 => (if t128 = true then (some true) else (none)))) else (none)))))) = some r := H; have A15 := Aside0.mk A150; clear A150; replace H := Option.bind_eq_some_iff.mp H; obtain ⟨t119, A160, H⟩ := H; replace H : (if (t119 != t110) = true then (none) else ((laws_toGraph.f k a0_0 l0_1).bind fun bt120 => ((laws_eqGraph.f k t111 t112 bt120.1 bt120.2).bind fun t124 => (if t124 = true then ((laws_toIntS.f k l1).bind fun t125 => ((laws_eqIntS.f k t116 t125).bind fun t128 => (if t128 = true then (some true) else (none)))) else (none))))) = some r := H; have A16 := Aside0.mk A160; clear A160; by_cases c17 : (t119 != t110) = true
  · rw [if_pos c17] at H; exact absurd H (by simp)
  rw [if_neg c17] at H; (have c17b0 : (t119 != t110) = false := by simpa using c17); (try (have c17b1 : decide (t119 = t110) = true := by simpa using c17)); (try (have c17b2 : (t119 == t110) = true := by simpa using c17)); clear c17; replace H := Option.bind_eq_some_iff.mp H; obtain ⟨⟨t120, t121⟩, A180, H⟩ := H; replace H : ((laws_eqGraph.f k t111 t112 t120 t121).bind fun t124 => (if t124 = true then ((laws_toIntS.f k l1).bind fun t125 => ((laws_eqIntS.f k t116 t125).bind fun t128 => (if t128 = true then (some true) else (none)))) else (none))) = some r := H; have A18 := Aside0.mk A180; clear A180; replace H := Option.bind_eq_some_iff.mp H; obtain ⟨t124, A190, H⟩ := H; replace H : (if t124 = true then ((laws_toIntS.f k l1).bind fun t125 => ((laws_eqIntS.f k t116 t125).bind fun t128 => (if t128 = true then (some true) else (none)))) else (none)) = some r := H; have A19 := Aside0.mk A190; clear A190; by_cases c20 : t124 = true; rotate_left
  · replace c20 := Bool.eq_false_iff.mpr c20; subst c20; (have H1 : (none) = some r := by rw [if_neg (show ¬ (false = true) by decide)] at H; exact H); clear H; have H := H1; clear H1; exact absurd H (by simp)
  subst c20; (have H1 : ((laws_toIntS.f k l1).bind fun t125 => ((laws_eqIntS.f k t116 t125).bind fun t128 => (if t128 = true then (some true) else (none)))) = some r := by rw [if_pos rfl] at H; exact H); clear H; have H := H1; clear H1; replace H := Option.bind_eq_some_iff.mp H; obtain ⟨t125, A210, H⟩ := H; replace H : ((laws_eqIntS.f k t116 t125).bind fun t128 => (if t128 = true then (some true) else (none))) = some r := H; have A21 := Aside0.mk A210; clear A210; replace H := Option.bind_eq_some_iff.mp H; obtain ⟨t128, A220, H⟩ := H; replace H : (if t128 = true then (some true) else (none)) = some r := H; have A22 := Aside0.mk A220; clear A220; by_cases c23 : t128 = true; rotate_left
  · replace c23 := Bool.eq_false_iff.mpr c23; subst c23; (have H1 : (none) = some r := by rw [if_neg (show ¬ (false = true) by decide)] at H; exact H); clear H; have H := H1; clear H1; exact absurd H (by simp)
  subst c23; (have H1 : (some true) = some r := by rw [if_pos rfl] at H; exact H); clear H; have H := H1; clear H1; obtain rfl := Option.some.inj H; go_enter Try.func12, Try.ntmps12; (try go_wp2_with (first | ((with_reducible refine gate_dst (N := 3) rfl ?_); refine box_event ?hg (N := 3) ?hd (cs := #[.int .i64 a0_0, .slice A0_1 l0_1.length c0_1]) (t := 33) ?hr ?_; (case hd => rfl); (case hg => rfl); (case hr => first | (go_simp; done) | (go_simp; rfl)); intro gb101 hg w24 hbox hb; have n0_ := Aside0.mk (below_step zz1 hb); have n1_ := Aside0.mk (hbox); have n2_ := Aside0.mk ((zz7 : w.heap.size ≤ gb101)); have n3_ := Aside0.mk ((zz7 : w.heap.size ≤ gb101)); clear HB; have HB := n0_; have BK101 := n1_; have GW101 := n2_; have GE101 := n3_; clear n0_ n1_ n2_ n3_; clear hb hbox hg; have hcz25_0 : w24.cell? ⟨gb101, 0, none⟩ = some (.int .i64 a0_0) := (blk_cell BK101.out 0).trans rfl; have hcz25_1 : w24.cell? ⟨gb101, 1, none⟩ = some (.slice A0_1 l0_1.length c0_1) := (blk_cell BK101.out 1).trans rfl; have hfz25_0 := blk_frozen BK101.out 0; have hfz25_1 := blk_frozen BK101.out 1) | ((with_reducible refine gate_callee (f := 41) rfl ?_); refine goesL_ (some 17) rfl rfl Try.func41 (by kernel_rfl) rfl #[.agg #[.int .i64 a0_0, .slice A0_1 l0_1.length c0_1], .int .i64 1048576] rfl zz3 ?_; (with_reducible refine (laws_szGraph.calls a0_0 _ _ l0_1 1048576 t102 _ ?side1 ?side2 A6.out).mono ?_); (case side1 => repeat (first | exact (Kd.C_below HR0_1.out HB.out) | (with_reducible refine Kd.C_alloc ?_ _) | (with_reducible refine Kd.C_drewN ?_ _) | (with_reducible refine Kd.C_drew ?_))); (case side2 => exact HC0_1.out); rintro e w26 ⟨rfl, hb⟩; refine ⟨_, rfl, ?_⟩; have n0_ := Aside0.mk (blk_below (g := gb101) (o := .cells #[.int .i64 a0_0, .slice A0_1 l0_1.length c0_1] 33 (0, 0)) zz2 hb); have n1_ := Aside0.mk (below_step zz0 hb); clear BK101; clear HB; have BK101 := n0_; have HB := n1_; clear n0_ n1_; (try clear hb); (try clear hb2); (try clear hk); (try clear hi); have hcz27_0 : w26.cell? ⟨gb101, 0, none⟩ = some (.int .i64 a0_0) := (blk_cell BK101.out 0).trans rfl; have hcz27_1 : w26.cell? ⟨gb101, 1, none⟩ = some (.slice A0_1 l0_1.length c0_1) := (blk_cell BK101.out 1).trans rfl; have hfz27_0 := blk_frozen BK101.out 0; have hfz27_1 := blk_frozen BK101.out 1) | ((with_reducible refine gate_callee (f := 43) rfl ?_); refine goesL_ (some 21) rfl rfl Try.func43 (by kernel_rfl) rfl #[.agg #[.int .i64 a0_0, .slice A0_1 l0_1.length c0_1]] rfl zz3 ?_; (with_reducible refine (laws_toGraph.calls k a0_0 _ _ l0_1 t103 t104 _ ?side1 ?side2 A11.out).mono ?_); (case side1 => repeat (first | exact (Kd.C_below HR0_1.out HB.out) | (with_reducible refine Kd.C_alloc ?_ _) | (with_reducible refine Kd.C_drewN ?_ _) | (with_reducible refine Kd.C_drew ?_))); (case side2 => exact HC0_1.out); rintro e w28 ⟨v105, rfl, ho0, hb⟩; refine ⟨_, rfl, ?_⟩; have n0_ := Aside0.mk (Kd.R_lower ho0 (below_size zz0)); have n1_ := Aside0.mk (blk_below (g := gb101) (o := .cells #[.int .i64 a0_0, .slice A0_1 l0_1.length c0_1] 33 (0, 0)) zz2 hb); have n2_ := Aside0.mk (below_step zz0 hb); clear BK101; clear HB; have HO106 := n0_; have BK101 := n1_; have HB := n2_; clear n0_ n1_ n2_; (try clear hb); (try clear hb2); (try clear hk); (try clear hi); (try clear ho0)) | ((with_reducible refine gate_callee (f := 44) rfl ?_); refine goesL_ (some 23) rfl rfl Try.func44 (by kernel_rfl) rfl #[.slice A1 l1.length c1] rfl zz3 ?_; (with_reducible refine (laws_toIntS.calls k _ _ l1 t107 _ ?side1 ?side2 A12.out).mono ?_); (case side1 => repeat (first | exact (Kd.C_below HR1.out HB.out) | (with_reducible refine Kd.C_alloc ?_ _) | (with_reducible refine Kd.C_drewN ?_ _) | (with_reducible refine Kd.C_drew ?_))); (case side2 => exact HC1.out); rintro e w29 ⟨v108, rfl, ho0, hb⟩; refine ⟨_, rfl, ?_⟩; have n0_ := Aside0.mk (Kd.R_below zz15 hb); have n1_ := Aside0.mk (Kd.R_lower ho0 (below_size zz0)); have n2_ := Aside0.mk (blk_below (g := gb101) (o := .cells #[.int .i64 a0_0, .slice A0_1 l0_1.length c0_1] 33 (0, 0)) zz2 hb); have n3_ := Aside0.mk (below_step zz0 hb); clear HO106; clear BK101; clear HB; have HO106 := n0_; have HO109 := n1_; have BK101 := n2_; have HB := n3_; clear n0_ n1_ n2_ n3_; (try clear hb); (try clear hb2); (try clear hk); (try clear hi); (try clear ho0); obtain ⟨Ao30, co30, eo30⟩ := Kd.R_slice HO106.out; subst eo30; obtain ⟨Ao31, co31, eo31⟩ := Kd.R_slice HO109.out; subst eo31) | ((with_reducible refine gate_callee (f := 62) rfl ?_); refine goesL_ (some 25) rfl rfl Try.func62 (by kernel_rfl) rfl #[.agg #[.int .i64 t103, .slice Ao30 t104.length co30], .slice Ao31 t107.length co31, .int .i64 a2] rfl zz3 ?_; (with_reducible refine (spec_IsParking.calls k t103 _ _ t104 _ _ t107 a2 t110 _ ?side1 ?side2 ?side3 ?side4 A13.out).mono ?_); (case side1 => repeat (first | exact (Kd.R_reads' HO106.out).2.2 | (with_reducible refine Kd.C_alloc ?_ _) | (with_reducible refine Kd.C_drewN ?_ _) | (with_reducible refine Kd.C_drew ?_))); (case side2 => exact (Kd.R_reads' HO106.out).2.1); (case side3 => repeat (first | exact (Kd.R_reads' HO109.out).2.2 | (with_reducible refine Kd.C_alloc ?_ _) | (with_reducible refine Kd.C_drewN ?_ _) | (with_reducible refine Kd.C_drew ?_))); (case side4 => exact (Kd.R_reads' HO109.out).2.1); rintro e w32 ⟨rfl, hb⟩; refine ⟨_, rfl, ?_⟩; have n0_ := Aside0.mk (Kd.R_below zz15 hb); have n1_ := Aside0.mk (Kd.R_below zz17 hb); have n2_ := Aside0.mk (blk_below (g := gb101) (o := .cells #[.int .i64 a0_0, .slice A0_1 l0_1.length c0_1] 33 (0, 0)) zz2 hb); have n3_ := Aside0.mk (below_step zz0 hb); clear HO106; clear HO109; clear BK101; clear HB; have HO106 := n0_; have HO109 := n1_; have BK101 := n2_; have HB := n3_; clear n0_ n1_ n2_ n3_; (try clear hb); (try clear hb2); (try clear hk); (try clear hi); have hcz33_0 : w32.cell? ⟨gb101, 0, none⟩ = some (.int .i64 a0_0) := (blk_cell BK101.out 0).trans rfl; have hcz33_1 : w32.cell? ⟨gb101, 1, none⟩ = some (.slice A0_1 l0_1.length c0_1) := (blk_cell BK101.out 1).trans rfl; have hfz33_0 := blk_frozen BK101.out 0; have hfz33_1 := blk_frozen BK101.out 1) | ((with_reducible refine gate_callee (f := 43) rfl ?_); refine goesL_ (some 27) rfl rfl Try.func43 (by kernel_rfl) rfl #[.agg #[.int .i64 a0_0, .slice A0_1 l0_1.length c0_1]] rfl zz3 ?_; (with_reducible refine (laws_toGraph.calls k a0_0 _ _ l0_1 t111 t112 _ ?side1 ?side2 A14.out).mono ?_); (case side1 => repeat (first | exact (Kd.C_below HR0_1.out HB.out) | (with_reducible refine Kd.C_alloc ?_ _) | (with_reducible refine Kd.C_drewN ?_ _) | (with_reducible refine Kd.C_drew ?_))); (case side2 => exact HC0_1.out); rintro e w34 ⟨v113, rfl, ho0, hb⟩; refine ⟨_, rfl, ?_⟩; have n0_ := Aside0.mk (Kd.R_elder' zz15 (Kd.R_base ho0) hb); have n1_ := Aside0.mk (Kd.R_below zz17 hb); have n2_ := Aside0.mk (Kd.R_lower (Kd.R_new' ho0 (Kd.R_lt zz15)) (below_size zz0)); have n3_ := Aside0.mk (blk_below (g := gb101) (o := .cells #[.int .i64 a0_0, .slice A0_1 l0_1.length c0_1] 33 (0, 0)) zz2 hb); have n4_ := Aside0.mk (below_step zz0 hb); clear HO106; clear HO109; clear BK101; clear HB; have HO106 := n0_; have HO109 := n1_; have HO114 := n2_; have BK101 := n3_; have HB := n4_; clear n0_ n1_ n2_ n3_ n4_; (try clear hb); (try clear hb2); (try clear hk); (try clear hi); (try clear ho0)) | ((with_reducible refine gate_dst (N := 9) rfl ?_); refine box_event ?hg (N := 9) ?hd (cs := #[.int .i64 0, .slice none 0 0]) (t := 38) ?hr ?_; (case hd => rfl); (case hg => rfl); (case hr => first | (go_simp; done) | (go_simp; rfl)); intro gb115 hg w35 hbox hb; have n0_ := Aside0.mk (Kd.R_below zz15 hb); have n1_ := Aside0.mk (Kd.R_below zz17 hb); have n2_ := Aside0.mk (Kd.R_below zz19 hb); have n3_ := Aside0.mk (blk_below (g := gb101) (o := .cells #[.int .i64 a0_0, .slice A0_1 l0_1.length c0_1] 33 (0, 0)) zz2 hb); have n4_ := Aside0.mk (below_step zz0 hb); have n5_ := Aside0.mk (hbox); have n6_ := Aside0.mk ((zz8 : w.heap.size ≤ gb115)); have n7_ := Aside0.mk ((zz8 : w.heap.size ≤ gb115)); have n8_ := Aside0.mk ((by rw [hg]; exact Nat.ne_of_lt (blk_lt (g := gb101) (o := .cells #[.int .i64 a0_0, .slice A0_1 l0_1.length c0_1] 33 (0, 0)) zz2) : gb101 ≠ gb115)); have n9_ := Aside0.mk ((by rw [hg]; exact Nat.ne_of_gt (blk_lt (g := gb101) (o := .cells #[.int .i64 a0_0, .slice A0_1 l0_1.length c0_1] 33 (0, 0)) zz2) : gb115 ≠ gb101)); clear HO106; clear HO109; clear HO114; clear BK101; clear HB; have HO106 := n0_; have HO109 := n1_; have HO114 := n2_; have BK101 := n3_; have HB := n4_; have BK115 := n5_; have GW115 := n6_; have GE115 := n7_; have NB101_115 := n8_; have NB115_101 := n9_; clear n0_ n1_ n2_ n3_ n4_ n5_ n6_ n7_ n8_ n9_; clear hb hbox hg; have hnb36 := NB115_101.out; have hnc36 := NB101_115.out; have hcz37_0 : w35.cell? ⟨gb115, 0, none⟩ = some (.int .i64 0) := (blk_cell BK115.out 0).trans rfl; have hcz37_1 : w35.cell? ⟨gb115, 1, none⟩ = some (.slice none 0 0) := (blk_cell BK115.out 1).trans rfl; have hfz37_0 := blk_frozen BK115.out 0; have hfz37_1 := blk_frozen BK115.out 1; obtain ⟨Ao38, co38, eo38⟩ := Kd.R_slice HO114.out; subst eo38) | ((with_reducible refine gate_callee (f := 44) rfl ?_); refine goesL_ (some 29) rfl rfl Try.func44 (by kernel_rfl) rfl #[.slice A1 l1.length c1] rfl zz3 ?_; (with_reducible refine (laws_toIntS.calls k _ _ l1 t116 _ ?side1 ?side2 A15.out).mono ?_); (case side1 => exact Kd.C_below HR1.out zz11); (case side2 => exact HC1.out); rintro e w39 ⟨v117, rfl, ho0, hb⟩; refine ⟨_, rfl, ?_⟩; have n0_ := Aside0.mk (Kd.R_below (by (with_reducible repeat (first | apply Kd.R_alloc | apply Kd.R_drewN | apply Kd.R_drew)); exact (Kd.R_mono (Kd.R_far (p := ⟨gb115, 1, none⟩) (Kd.R_far (p := ⟨gb115, 0, none⟩) (Kd.R_types HO106.out BK115.out (by decide)) (fun _ hk => hk.2) (.int .i64 t111)) (fun _ hk => hk.2) (.slice Ao38 t112.length co38)) (fun _ h_ => h_.1))) hb); have n1_ := Aside0.mk (Kd.R_elder' zz26 (Kd.R_base ho0) hb); have n2_ := Aside0.mk (Kd.R_below (by (with_reducible repeat (first | apply Kd.R_alloc | apply Kd.R_drewN | apply Kd.R_drew)); exact (Kd.R_mono (Kd.R_far (p := ⟨gb115, 1, none⟩) (Kd.R_far (p := ⟨gb115, 0, none⟩) (Kd.R_types HO114.out BK115.out (by decide)) (fun _ hk => hk.2) (.int .i64 t111)) (fun _ hk => hk.2) (.slice Ao38 t112.length co38)) (fun _ h_ => h_.1))) hb); have n3_ := Aside0.mk (Kd.R_lower (Kd.R_new' ho0 (Kd.R_lt zz26)) (below_size zz11)); have n4_ := Aside0.mk (blk_below (g := gb101) (o := .cells #[.int .i64 a0_0, .slice A0_1 l0_1.length c0_1] 33 (0, 0)) (by (with_reducible repeat (first | refine blk_drewN ?_ _ | refine blk_drew ?_ | refine blk_alloc ?_ _)); refine blk_far ?_ NB101_115.out _; (with_reducible repeat (first | refine blk_drewN ?_ _ | refine blk_drew ?_ | refine blk_alloc ?_ _)); refine blk_far ?_ NB101_115.out _; (with_reducible repeat (first | refine blk_drewN ?_ _ | refine blk_drew ?_ | refine blk_alloc ?_ _)); exact BK101.out) hb); have n5_ := Aside0.mk (blk_below (g := gb115) (o := .cells #[.int .i64 t111, .slice Ao38 t112.length co38] 38 (0, 0)) (by (with_reducible repeat (first | refine blk_drewN ?_ _ | refine blk_drew ?_ | refine blk_alloc ?_ _)); refine blk_put (cs := #[.int .i64 t111, .slice none 0 0]) ?_ 1 _ rfl; (with_reducible repeat (first | refine blk_drewN ?_ _ | refine blk_drew ?_ | refine blk_alloc ?_ _)); refine blk_put (cs := #[.int .i64 0, .slice none 0 0]) ?_ 0 _ rfl; (with_reducible repeat (first | refine blk_drewN ?_ _ | refine blk_drew ?_ | refine blk_alloc ?_ _)); exact BK115.out) hb); have n6_ := Aside0.mk (below_step zz11 hb); clear HO106; clear HO109; clear HO114; clear BK101; clear BK115; clear HB; have HO106 := n0_; have HO109 := n1_; have HO114 := n2_; have HO118 := n3_; have BK101 := n4_; have BK115 := n5_; have HB := n6_; clear n0_ n1_ n2_ n3_ n4_ n5_ n6_; (try clear hb); (try clear hb2); (try clear hk); (try clear hi); (try clear ho0); have hcz40_0 : w39.cell? ⟨gb115, 0, none⟩ = some (.int .i64 t111) := (blk_cell BK115.out 0).trans rfl; have hcz40_1 : w39.cell? ⟨gb115, 1, none⟩ = some (.slice Ao38 t112.length co38) := (blk_cell BK115.out 1).trans rfl; have hfz40_0 := blk_frozen BK115.out 0; have hfz40_1 := blk_frozen BK115.out 1; obtain ⟨Ao41, co41, eo41⟩ := Kd.R_slice HO118.out; subst eo41) | ((with_reducible refine gate_callee (f := 63) rfl ?_); refine goesL_ (some 33) rfl rfl Try.func63 (by kernel_rfl) rfl #[.agg #[.int .i64 t111, .slice Ao38 t112.length co38], .slice Ao41 t116.length co41, .int .i64 a2] rfl zz3 ?_; (with_reducible refine (impl_IsParking.calls k t111 _ _ t112 _ _ t116 a2 t119 _ ?side1 ?side2 ?side3 ?side4 A16.out).mono ?_); (case side1 => repeat (first | exact (Kd.R_reads' HO114.out).2.2 | (with_reducible refine Kd.C_alloc ?_ _) | (with_reducible refine Kd.C_drewN ?_ _) | (with_reducible refine Kd.C_drew ?_))); (case side2 => exact (Kd.R_reads' HO114.out).2.1); (case side3 => repeat (first | exact (Kd.R_reads' HO118.out).2.2 | (with_reducible refine Kd.C_alloc ?_ _) | (with_reducible refine Kd.C_drewN ?_ _) | (with_reducible refine Kd.C_drew ?_))); (case side4 => exact (Kd.R_reads' HO118.out).2.1); rintro e w42 ⟨rfl, hb⟩; refine ⟨_, rfl, ?_⟩; have n0_ := Aside0.mk (Kd.R_below zz15 hb); have n1_ := Aside0.mk (Kd.R_below zz17 hb); have n2_ := Aside0.mk (Kd.R_below zz19 hb); have n3_ := Aside0.mk (Kd.R_below zz24 hb); have n4_ := Aside0.mk (blk_below (g := gb101) (o := .cells #[.int .i64 a0_0, .slice A0_1 l0_1.length c0_1] 33 (0, 0)) zz2 hb); have n5_ := Aside0.mk (blk_below (g := gb115) (o := .cells #[.int .i64 t111, .slice Ao38 t112.length co38] 38 (0, 0)) zz25 hb); have n6_ := Aside0.mk (below_step zz11 hb); clear HO106; clear HO109; clear HO114; clear HO118; clear BK101; clear BK115; clear HB; have HO106 := n0_; have HO109 := n1_; have HO114 := n2_; have HO118 := n3_; have BK101 := n4_; have BK115 := n5_; have HB := n6_; clear n0_ n1_ n2_ n3_ n4_ n5_ n6_; (try clear hb); (try clear hb2); (try clear hk); (try clear hi)))); have n0_ := Aside0.mk (Kd.R_drew HO106.out); have n1_ := Aside0.mk (Kd.R_drew HO109.out); have n2_ := Aside0.mk (Kd.R_drew HO114.out); have n3_ := Aside0.mk (Kd.R_drew HO118.out); have n4_ := Aside0.mk (blk_drew BK101.out); have n5_ := Aside0.mk (blk_drew BK115.out); have n6_ := Aside0.mk (below_drew1 HB.out); clear HO106; clear HO109; clear HO114; clear HO118; clear BK101; clear BK115; clear HB; have HO106 := n0_; have HO109 := n1_; have HO114 := n2_; have HO118 := n3_; have BK101 := n4_; have BK115 := n5_; have HB := n6_; clear n0_ n1_ n2_ n3_ n4_ n5_ n6_; refine start_ (n := 5) (S := fun w' => w'.cell? ⟨gb115, 0, none⟩ = some (.int .i64 t111) ∧ w'.cell? ⟨gb115, 1, none⟩ = some (.slice Ao38 t112.length co38) ∧ w'.cell? ⟨gb101, 0, none⟩ = some (.int .i64 a0_0) ∧ w'.cell? ⟨gb101, 1, none⟩ = some (.slice A0_1 l0_1.length c0_1)) (ds := []) #[false, false, false, false, false] (by kernel_rfl) rfl rfl ⟨(blk_cell BK115.out 0).trans rfl, (blk_cell BK115.out 1).trans rfl, (blk_cell BK101.out 0).trans rfl, (blk_cell BK101.out 1).trans rfl⟩ (fun hHeld => ?_); generalize w42.drew = w43 at HO106 HO109 HO114 HO118 BK101 BK115 HB hHeld ⊢; refine take_ (i := 0) (N := some 37) (v := ?_) (a' := ?_) #[true, false, false, false, false] rfl rfl (by kernel_rfl) (fun _ _ _ h => h) (Or.inl ⟨by rfl, ?_⟩) hHeld ?_ ?_; rotate_left
  · rintro w' ⟨s0, s1, s2, s3⟩; exact zzT
  rotate_left
  · exact zzS
  refine take_ (i := 1) (N := some 38) (v := ?_) (a' := ?_) #[true, true, false, false, false] rfl rfl (by kernel_rfl) (fun _ _ _ h => h) (Or.inl ⟨by rfl, ?_⟩) hHeld ?_ ?_; rotate_left
  · rintro w' ⟨s0, s1, s2, s3⟩; exact zzT
  rotate_left
  · exact zzS
  refine one_ (i := 2) (N := some 39) #[true, true, true, false, false] rfl rfl (by kernel_rfl) (by decide) (fun K hK => ?_); refine goes_ Try.func43 (by kernel_rfl) rfl #[.agg #[.int .i64 a0_0, .slice A0_1 l0_1.length c0_1]] (by rfl) rfl rfl zz3 ?_; (with_reducible refine (laws_toGraph.calls k a0_0 _ _ l0_1 t120 t121 _ ?side1 ?side2 A18.out).mono ?_); (case side1 => repeat (first | exact (Kd.C_below HR0_1.out HB.out) | (with_reducible refine Kd.C_alloc ?_ _) | (with_reducible refine Kd.C_drewN ?_ _) | (with_reducible refine Kd.C_drew ?_))); (case side2 => exact HC0_1.out); rintro e w44 ⟨v122, rfl, ho0, hb⟩; refine ⟨_, rfl, ?_⟩; have n0_ := Aside0.mk (Kd.R_elder' zz15 (Kd.R_base ho0) hb); have n1_ := Aside0.mk (Kd.R_below zz17 hb); have n2_ := Aside0.mk (Kd.R_elder' zz19 (Kd.R_base ho0) hb); have n3_ := Aside0.mk (Kd.R_below zz24 hb); have n4_ := Aside0.mk (Kd.R_lower (Kd.R_new' (Kd.R_new' ho0 (Kd.R_lt zz15)) (Kd.R_lt zz19)) (below_size zz11)); have n5_ := Aside0.mk (blk_below (g := gb101) (o := .cells #[.int .i64 a0_0, .slice A0_1 l0_1.length c0_1] 33 (0, 0)) zz2 hb); have n6_ := Aside0.mk (blk_below (g := gb115) (o := .cells #[.int .i64 t111, .slice Ao38 t112.length co38] 38 (0, 0)) zz25 hb); have n7_ := Aside0.mk (below_step zz11 hb); clear HO106; clear HO109; clear HO114; clear HO118; clear BK101; clear BK115; clear HB; have HO106 := n0_; have HO109 := n1_; have HO114 := n2_; have HO118 := n3_; have HO123 := n4_; have BK101 := n5_; have BK115 := n6_; have HB := n7_; clear n0_ n1_ n2_ n3_ n4_ n5_ n6_ n7_; (try clear hb); (try clear hb2); (try clear hk); (try clear hi); (try clear ho0); obtain ⟨Ao45, co45, eo45⟩ := Kd.R_slice HO123.out; (first | subst eo45 | (injection eo45 with f1_ f2_ f3_; have f4_ := f1_.symm; have f5_ := f3_.symm; clear f1_ f2_ f3_; subst f4_; subst f5_)); refine hK.out _ _ ⟨(blk_cell BK115.out 0).trans rfl, (blk_cell BK115.out 1).trans rfl, (blk_cell BK101.out 0).trans rfl, (blk_cell BK101.out 1).trans rfl⟩ (fun hHeld => ?_); clear hK K; refine norm_ (a' := ?_) ?_ ?_; rotate_left
  · show Act.put _ (some 39) _ = _; exact zzS
  refine one_ (i := 3) (N := some 40) #[true, true, true, true, false] rfl rfl (by kernel_rfl) (by decide) (fun K hK => ?_); refine goes_ Try.func46 (by kernel_rfl) rfl #[.agg #[.int .i64 t111, .slice Ao38 t112.length co38], .agg #[.int .i64 t120, .slice Ao45 t121.length co45]] (by rfl) rfl rfl zz3 ?_; (with_reducible refine (laws_eqGraph.calls k t111 _ _ t112 t120 _ _ t121 true _ ?side1 ?side2 ?side3 ?side4 A19.out).mono ?_); (case side1 => repeat (first | exact (Kd.R_reads' HO114.out).2.2 | (with_reducible refine Kd.C_alloc ?_ _) | (with_reducible refine Kd.C_drewN ?_ _) | (with_reducible refine Kd.C_drew ?_))); (case side2 => exact (Kd.R_reads' HO114.out).2.1); (case side3 => repeat (first | exact (Kd.R_reads' HO123.out).2.2 | (with_reducible refine Kd.C_alloc ?_ _) | (with_reducible refine Kd.C_drewN ?_ _) | (with_reducible refine Kd.C_drew ?_))); (case side4 => exact (Kd.R_reads' HO123.out).2.1); rintro e w46 ⟨rfl, hb⟩; refine ⟨_, rfl, ?_⟩; have n0_ := Aside0.mk (Kd.R_below zz15 hb); have n1_ := Aside0.mk (Kd.R_below zz17 hb); have n2_ := Aside0.mk (Kd.R_below zz19 hb); have n3_ := Aside0.mk (Kd.R_below zz24 hb); have n4_ := Aside0.mk (Kd.R_below (by (with_reducible repeat (first | apply Kd.R_alloc | apply Kd.R_drewN | apply Kd.R_drew)); exact HO123.out) hb); have n5_ := Aside0.mk (blk_below (g := gb101) (o := .cells #[.int .i64 a0_0, .slice A0_1 l0_1.length c0_1] 33 (0, 0)) zz2 hb); have n6_ := Aside0.mk (blk_below (g := gb115) (o := .cells #[.int .i64 t111, .slice Ao38 t112.length co38] 38 (0, 0)) zz25 hb); have n7_ := Aside0.mk (below_step zz11 hb); clear HO106; clear HO109; clear HO114; clear HO118; clear HO123; clear BK101; clear BK115; clear HB; have HO106 := n0_; have HO109 := n1_; have HO114 := n2_; have HO118 := n3_; have HO123 := n4_; have BK101 := n5_; have BK115 := n6_; have HB := n7_; clear n0_ n1_ n2_ n3_ n4_ n5_ n6_ n7_; (try clear hb); (try clear hb2); (try clear hk); (try clear hi); refine hK.out _ _ ⟨(blk_cell BK115.out 0).trans rfl, (blk_cell BK115.out 1).trans rfl, (blk_cell BK101.out 0).trans rfl, (blk_cell BK101.out 1).trans rfl⟩ (fun hHeld => ?_); clear hK K; refine norm_ (a' := ?_) ?_ ?_; rotate_left
  · show Act.put _ (some 40) _ = _; exact zzS
  refine pure_ (i := 4) (N := some 41) (v := ?_) (a' := ?_) #[true, true, true, true, true] rfl rfl (by kernel_rfl) (fun _ _ _ h => h) (Or.inl ⟨by rfl, ?_⟩) ?_ ?_; rotate_left
  · intro w'; exact zzT
  rotate_left
  · exact zzS
  refine done_ (by kernel_rfl) ?_; (try go_wp2_with (first | ((with_reducible refine gate_callee (f := 44) rfl ?_); refine goesL_ (some 44) rfl rfl Try.func44 (by kernel_rfl) rfl #[.slice A1 l1.length c1] rfl zz3 ?_; (with_reducible refine (laws_toIntS.calls k _ _ l1 t125 _ ?side1 ?side2 A21.out).mono ?_); (case side1 => repeat (first | exact (Kd.C_below HR1.out HB.out) | (with_reducible refine Kd.C_alloc ?_ _) | (with_reducible refine Kd.C_drewN ?_ _) | (with_reducible refine Kd.C_drew ?_))); (case side2 => exact HC1.out); rintro e w47 ⟨v126, rfl, ho0, hb⟩; refine ⟨_, rfl, ?_⟩; have n0_ := Aside0.mk (Kd.R_below zz15 hb); have n1_ := Aside0.mk (Kd.R_elder' zz17 (Kd.R_base ho0) hb); have n2_ := Aside0.mk (Kd.R_below zz19 hb); have n3_ := Aside0.mk (Kd.R_elder' zz24 (Kd.R_base ho0) hb); have n4_ := Aside0.mk (Kd.R_below (by (with_reducible repeat (first | apply Kd.R_alloc | apply Kd.R_drewN | apply Kd.R_drew)); exact HO123.out) hb); have n5_ := Aside0.mk (Kd.R_lower (Kd.R_new' (Kd.R_new' ho0 (Kd.R_lt zz17)) (Kd.R_lt zz24)) (below_size zz11)); have n6_ := Aside0.mk (blk_below (g := gb101) (o := .cells #[.int .i64 a0_0, .slice A0_1 l0_1.length c0_1] 33 (0, 0)) zz2 hb); have n7_ := Aside0.mk (blk_below (g := gb115) (o := .cells #[.int .i64 t111, .slice Ao38 t112.length co38] 38 (0, 0)) zz25 hb); have n8_ := Aside0.mk (below_step zz11 hb); clear HO106; clear HO109; clear HO114; clear HO118; clear HO123; clear BK101; clear BK115; clear HB; have HO106 := n0_; have HO109 := n1_; have HO114 := n2_; have HO118 := n3_; have HO123 := n4_; have HO127 := n5_; have BK101 := n6_; have BK115 := n7_; have HB := n8_; clear n0_ n1_ n2_ n3_ n4_ n5_ n6_ n7_ n8_; (try clear hb); (try clear hb2); (try clear hk); (try clear hi); (try clear ho0); obtain ⟨Ao48, co48, eo48⟩ := Kd.R_slice HO127.out; subst eo48) | ((with_reducible refine gate_callee (f := 36) rfl ?_); refine goesL_ (some 45) rfl rfl Try.func36 (by kernel_rfl) rfl #[.slice Ao41 t116.length co41, .slice Ao48 t125.length co48] rfl zz3 ?_; (with_reducible refine (laws_eqIntS.calls k _ _ t116 _ _ t125 true _ ?side1 ?side2 ?side3 ?side4 A22.out).mono ?_); (case side1 => repeat (first | exact (Kd.R_reads' HO118.out).2.2 | (with_reducible refine Kd.C_alloc ?_ _) | (with_reducible refine Kd.C_drewN ?_ _) | (with_reducible refine Kd.C_drew ?_))); (case side2 => exact (Kd.R_reads' HO118.out).2.1); (case side3 => repeat (first | exact (Kd.R_reads' HO127.out).2.2 | (with_reducible refine Kd.C_alloc ?_ _) | (with_reducible refine Kd.C_drewN ?_ _) | (with_reducible refine Kd.C_drew ?_))); (case side4 => exact (Kd.R_reads' HO127.out).2.1); rintro e w' ⟨rfl, ⟨nd, rfl⟩⟩; refine ⟨_, rfl, ?_⟩))); go_ret; exact ⟨by first | rfl | (simp [errW_none, errW_some] <;> rfl) | (simp [*, errW_none, errW_some] <;> rfl), by repeat (first | (with_reducible first | exact HB.out | apply below_alloc | apply pw_below_drewN | apply below_drew1 | refine below_set ?_ GE101.out | refine below_set ?_ GE115.out) | exact HB.out)⟩
end Go.Proofs.Ytjecgolakaiddaa.P
end

section
namespace Go.Proofs.Ytjecgolakaiddaa.P
open Go.RowKit Go.Proofs.YtjecgolakaiddaaW.PrintWords Go.Proofs.YtjecgolakaiddaaW.PrintLast Go.Proofs.YtjecgolakaiddaaW.PrintMore
attribute [local go_sem] max2_int min2_int max_two min_two max_three min_three max_four min_four
set_option linter.unusedVariables false
set_option linter.unusedSimpArgs false
def impl_isAt.f (a0_0 : Int) (l0_1 : List (S70)) (a1 : Int) (a2 : Int) : Option (Bool) := (impl_within.f a1 0 (wrap64 ((l0_1.length : Int) - 1))).bind fun t102 => (if t102 = true then (if 0 ≤ a1 then (if a1 < (l0_1.length : Int) then (if ((rd_T70 l0_1 a1).f0) = a2 then (some true) else (some (((rd_T70 l0_1 a1).f1) == a2))) else (none)) else (none)) else (some false))
end Go.Proofs.Ytjecgolakaiddaa.P
end

section
namespace Go.Proofs.Ytjecgolakaiddaa.Cf
set_option linter.unusedVariables false
set_option linter.unusedSimpArgs false
open Go.RowKit Go.Proofs.YtjecgolakaiddaaW.PrintWords Go.Proofs.Ytjecgolakaiddaa.P
theorem forall_drop' {α : Type} {l : List α} {P : α → Prop} {i : Nat} (h : i < l.length) : (∀ e ∈ l.drop i, P e) ↔ (P l[i] ∧ ∀ e ∈ l.drop (i + 1), P e) := by
  rw [List.drop_eq_getElem_cons h]
  simp only [List.mem_cons, forall_eq_or_imp]
theorem implGraph (n : Int) (es : List E) : impl_GraphOk.f n es = some (gOk n es) := rfl
theorem gOk_true {n : Int} {es : List E} (h : gOk n es = true) : GOk n es := gOk_iff.1 h
theorem allWithin_l0 (a b : Int) (l : List Int) (hl : l.length ≤ 1048576) : ∀ (d i : Nat), i + d = l.length → Ep (fun k => impl_allWithin.l0 k a b l (l.length : Int) (i : Int)) (· = decide (∀ x ∈ l.drop i, a ≤ x ∧ x ≤ b)) := by
  intro d
  induction d with
  | zero =>
    intro i hi
    refine Ep.up ?_
    simp only [impl_allWithin.l0]
    refine Ep.neg (by omega) (Ep.now ?_)
    rw [List.drop_of_length_le (by omega)]
    simp
  | succ d ih =>
    intro i hi
    have hlt : i < l.length := by omega
    refine Ep.up ?_
    simp only [impl_allWithin.l0]
    refine Ep.pos (by omega) (Ep.pos (by omega) (Ep.pos (by omega) ?_))
    rw [rd_get hlt, wrap_succ (by omega)]
    refine Ep.bind0 (within_eq _ _ _) ?_
    refine Ep.ite (fun h => ?_) (fun h => Ep.now ?_)
    · have h' : a ≤ l[i] ∧ l[i] ≤ b := by simpa using h
      refine (ih (i + 1) (by omega)).mono ?_
      rintro _ rfl
      simp only [forall_drop' hlt, h', true_and]
    · have h' : ¬ (a ≤ l[i] ∧ l[i] ≤ b) := by simpa using h
      simp only [forall_drop' hlt, h', false_and, decide_false]
theorem allWithin_ok (l : List Int) (a b : Int) (hl : l.length ≤ 1048576) : Ep (fun k => impl_allWithin.f k l a b) (· = decide (∀ x ∈ l, a ≤ x ∧ x ≤ b)) := by
  have := allWithin_l0 a b l hl l.length 0 (by omega)
  simp only [impl_allWithin.f]
  rw [List.drop_zero] at this
  exact this
theorem isVertex_eq (n : Int) (es : List E) (v : Int) (hn : Wf .i64 n) : impl_isVertex.f n es v = some (gOk n es && decide (0 ≤ v ∧ v < n)) := by
  unfold impl_isVertex.f
  rw [implGraph]
  simp only [Option.bind_some]
  by_cases h : gOk n es = true
  · have h1 := (gOk_true h).1.1
    have h6 := (gOk_true h).1.2.1
    rw [if_pos h, wrap_id (by omega) (by omega), within_eq, h]
    simp only [Option.bind_some, Bool.true_and]
    have : (0 ≤ v ∧ v ≤ n - 1) ↔ (0 ≤ v ∧ v < n) := by omega
    simp only [this]
  · rw [if_neg h]
    have : gOk n es = false := by simpa using h
    rw [this]
    rfl
/-- The edge with this index is at v. -/
def At (es : List E) (k v : Int) : Prop := ∃ j : Nat, k = j ∧ ∃ h : j < es.length, es[j].f0 = v ∨ es[j].f1 = v
theorem At.of {es : List E} {j : Nat} {v : Int} (hj : j < es.length) : At es (j : Int) v ↔ (es[j].f0 = v ∨ es[j].f1 = v) := by
  constructor
  · rintro ⟨i, hi, h, hx⟩
    have : i = j := by omega
    subst this
    exact hx
  · intro h
    exact ⟨j, rfl, hj, h⟩
end Go.Proofs.Ytjecgolakaiddaa.Cf
end

section
namespace Go.Proofs.Ytjecgolakaiddaa.Cf
set_option linter.unusedVariables false
set_option linter.unusedSimpArgs false
def sumN : Nat → (Nat → Int) → Int
  | 0, _ => 0
  | n + 1, f => sumN n f + f n
def sumE (es : List E) (f : E → Int) : Int := (es.map f).sum
theorem sumE_cons (e : E) (r : List E) (f : E → Int) : sumE (e :: r) f = f e + sumE r f := by simp [sumE]
theorem sumN_congr {n : Nat} {f g : Nat → Int} (h : ∀ i, i < n → f i = g i) : sumN n f = sumN n g := by
  induction n with
  | zero => rfl
  | succ n ih => simp only [sumN]; rw [ih (fun i hi => h i (by omega)), h n (by omega)]
theorem sumN_le {n : Nat} {f g : Nat → Int} (h : ∀ i, i < n → f i ≤ g i) : sumN n f ≤ sumN n g := by
  induction n with
  | zero => exact Int.le_refl _
  | succ n ih =>
    simp only [sumN]
    have := ih (fun i hi => h i (by omega))
    have := h n (by omega)
    omega
theorem sumN_add (n : Nat) (f g : Nat → Int) : sumN n (fun i => f i + g i) = sumN n f + sumN n g := by
  induction n with
  | zero => rfl
  | succ n ih => simp only [sumN]; rw [ih]; omega
theorem sumN_zero (n : Nat) : sumN n (fun _ => 0) = 0 := by
  induction n with
  | zero => rfl
  | succ n ih => simp only [sumN]; rw [ih]; rfl
theorem sumN_const (n : Nat) (c : Int) : sumN n (fun _ => c) = n * c := by
  induction n with
  | zero => simp [sumN]
  | succ n ih => simp only [sumN]; rw [ih]; rw [Int.natCast_succ, Int.add_mul]; omega
theorem sumN_one {n : Nat} (k : Nat) (hk : k < n) (c : Int) : sumN n (fun i => if i = k then c else 0) = c := by
  induction n with
  | zero => omega
  | succ n ih =>
    simp only [sumN]
    by_cases h : n = k
    · subst h
      rw [if_pos rfl, sumN_congr (g := fun _ => 0) (fun i hi => by rw [if_neg (by omega)]), sumN_zero]
      omega
    · rw [ih (by omega), if_neg h]
      omega
theorem sumE_congr {es : List E} {f g : E → Int} (h : ∀ e ∈ es, f e = g e) : sumE es f = sumE es g := by
  unfold sumE
  rw [List.map_congr_left h]
theorem sumE_add (es : List E) (f g : E → Int) : sumE es (fun e => f e + g e) = sumE es f + sumE es g := by
  induction es with
  | nil => rfl
  | cons e r ih => rw [sumE_cons, sumE_cons, sumE_cons, ih]; omega
theorem sumE_le {es : List E} {f g : E → Int} (h : ∀ e ∈ es, f e ≤ g e) : sumE es f ≤ sumE es g := by
  induction es with
  | nil => exact Int.le_refl _
  | cons e r ih =>
    rw [sumE_cons, sumE_cons]
    have := ih (fun x hx => h x (List.mem_cons_of_mem _ hx))
    have := h e List.mem_cons_self
    omega
theorem sumE_zero {es : List E} {f : E → Int} (h : ∀ e ∈ es, f e = 0) : sumE es f = 0 := by
  induction es with
  | nil => rfl
  | cons e r ih => rw [sumE_cons, ih (fun x hx => h x (List.mem_cons_of_mem _ hx)), h e List.mem_cons_self]; rfl
theorem sumE_nonneg {es : List E} {f : E → Int} (h : ∀ e ∈ es, 0 ≤ f e) : 0 ≤ sumE es f := by
  have := sumE_le (es := es) (f := fun _ => 0) (g := f) h
  rw [sumE_zero (fun _ _ => rfl)] at this
  exact this
theorem sumE_neg (es : List E) (f : E → Int) : sumE es (fun e => - f e) = - sumE es f := by
  induction es with
  | nil => rfl
  | cons e r ih => rw [sumE_cons, sumE_cons, ih]; omega
/-- What an edge takes from w when the script s is fired. -/
def lapE (s : Int → Int) (w : Int) (e : E) : Int := (if e.f0 = w then s e.f0 - s e.f1 else 0) + (if e.f1 = w then s e.f1 - s e.f0 else 0)
/-- What w loses when the script s is fired. -/
def lap (es : List E) (s : Int → Int) (w : Int) : Int := sumE es (lapE s w)
def ind (P : Int → Bool) (v : Int) : Int := if P v then 1 else 0
def one (v : Int) (t : Int) (w : Int) : Int := if w = v then t else 0
theorem lap_nil (s : Int → Int) (w : Int) : lap [] s w = 0 := rfl
theorem lap_cons (e : E) (r : List E) (s : Int → Int) (w : Int) : lap (e :: r) s w = lapE s w e + lap r s w := sumE_cons _ _ _
theorem lap_add (es : List E) (s t : Int → Int) (w : Int) : lap es (fun v => s v + t v) w = lap es s w + lap es t w := by
  unfold lap
  rw [← sumE_add]
  apply sumE_congr
  intro e _
  simp only [lapE]
  split <;> split <;> omega
theorem lap_neg (es : List E) (s : Int → Int) (w : Int) : lap es (fun v => - s v) w = - lap es s w := by
  unfold lap
  rw [← sumE_neg]
  apply sumE_congr
  intro e _
  simp only [lapE]
  split <;> split <;> omega
theorem lap_sub (es : List E) (s t : Int → Int) (w : Int) : lap es (fun v => s v - t v) w = lap es s w - lap es t w := by
  have := lap_add es s (fun v => - t v) w
  rw [lap_neg] at this
  rw [show (fun v => s v - t v) = (fun v => s v + - t v) from funext fun v => by omega, this]
  omega
theorem lap_congr {n : Int} {es : List E} (hes : ∀ e ∈ es, EOk n e) {s t : Int → Int} (h : ∀ v, 0 ≤ v → v < n → s v = t v) (w : Int) : lap es s w = lap es t w := by
  apply sumE_congr
  intro e he
  have hk := hes e he
  unfold EOk at hk
  unfold lapE
  rw [h e.f0 (by omega) (by omega), h e.f1 (by omega) (by omega)]
theorem lap_const {es : List E} {s : Int → Int} {c : Int} (h : ∀ e ∈ es, s e.f0 = c ∧ s e.f1 = c) (w : Int) : lap es s w = 0 := by
  apply sumE_zero
  intro e he
  unfold lapE
  rw [(h e he).1, (h e he).2]
  split <;> split <;> omega
/-- q-reduced. -/
def Red (n : Nat) (es : List E) (q : Int) (d : Int → Int) : Prop :=
  (∀ v : Int, 0 ≤ v → v < n → v ≠ q → 0 ≤ d v) ∧ ∀ S : Int → Bool, S q = false → (∃ v : Int, 0 ≤ v ∧ v < n ∧ S v = true) → ∃ v : Int, 0 ≤ v ∧ v < n ∧ S v = true ∧ d v < lap es (ind S) v
def below (n : Nat) (s : Int → Int) (t : Int) : Nat := (List.range n).countP (fun i => decide (s (i : Nat) < t))
end Go.Proofs.Ytjecgolakaiddaa.Cf
end

section
namespace Go.Proofs.Ytjecgolakaiddaa.Cf
set_option linter.unusedVariables false
set_option linter.unusedSimpArgs false
def valE (v : Int) (e : E) : Int := if e.f0 = v ∨ e.f1 = v then 1 else 0
/-- The number of edges at a vertex. -/
def val (es : List E) (v : Int) : Int := sumE es (valE v)
def multE (a b : Int) (e : E) : Int := if (e.f0 = a ∧ e.f1 = b) ∨ (e.f0 = b ∧ e.f1 = a) then 1 else 0
/-- The number of edges between two vertices. -/
def mult (es : List E) (a b : Int) : Int := sumE es (multE a b)
theorem mult_nonneg (es : List E) (a b : Int) : 0 ≤ mult es a b := sumE_nonneg fun e _ => by unfold multE; split <;> omega
theorem sumE_len {es : List E} {f : E → Int} (h : ∀ e ∈ es, f e ≤ 1) : sumE es f ≤ es.length := by
  induction es with
  | nil => simp [sumE]
  | cons e r ih =>
    rw [sumE_cons]
    have := ih (fun x hx => h x (List.mem_cons_of_mem _ hx))
    have := h e List.mem_cons_self
    simp only [List.length_cons]
    omega
theorem mult_le (es : List E) (a b : Int) : mult es a b ≤ es.length := sumE_len fun e _ => by unfold multE; split <;> omega
/-- s is reached from p by toppling unstable vertices other than q. -/
inductive Legal (n : Nat) (es : List E) (q : Int) (p : Int → Int) : (Int → Int) → Prop
  | zero : Legal n es q p (fun _ => 0)
  | step {s : Int → Int} {v : Int} : Legal n es q p s → 0 ≤ v → v < n → v ≠ q → val es v ≤ p v - lap es s v → Legal n es q p (fun w => s w + one v 1 w)
theorem Legal.nonneg {n : Nat} {es : List E} {q : Int} {p s : Int → Int} (h : Legal n es q p s) : (∀ w, 0 ≤ s w) ∧ s q = 0 := by
  induction h with
  | zero => exact ⟨fun _ => Int.le_refl _, rfl⟩
  | @step s v _ _ _ hq _ ih =>
    refine ⟨fun w => ?_, ?_⟩
    · have := ih.1 w
      show 0 ≤ s w + one v 1 w
      unfold one
      split <;> omega
    · have := ih.2
      show s q + one v 1 q = 0
      unfold one
      rw [if_neg (fun x : q = v => hq x.symm)]
      omega
end Go.Proofs.Ytjecgolakaiddaa.Cf
end

section
namespace Go.Proofs.Ytjecgolakaiddaa.P
open Go.RowKit Go.Proofs.YtjecgolakaiddaaW.PrintWords Go.Proofs.YtjecgolakaiddaaW.PrintLast Go.Proofs.YtjecgolakaiddaaW.PrintMore
attribute [local go_sem] max2_int min2_int max_two min_two max_three min_three max_four min_four
set_option linter.unusedVariables false
set_option linter.unusedSimpArgs false
def spec_IsEffective.l0 : Nat → List Int → Int → Int → Option (Bool)
  | 0, _, _, _ => none
  | k + 1, x5, x6, x7 => if x7 < x6 then (if 0 ≤ x7 then (if x7 < (x5.length : Int) then (if (rd x5 x7) < 0 then (some false) else (spec_IsEffective.l0 k x5 x6 (wrap64 (x7 + 1)))) else (none)) else (none)) else (some true)
def spec_IsEffective.f (k : Nat) (l0 : List Int) : Option (Bool) := spec_IsEffective.l0 k l0 (l0.length : Int) 0
theorem spec_IsEffective.mono_l : ∀ k, (∀ y0 y1 y2, LeO (spec_IsEffective.l0 k y0 y1 y2) (spec_IsEffective.l0 (k + 1) y0 y1 y2))
  | 0 => fun _ _ _ r h => by simp [spec_IsEffective.l0] at h
  | k + 1 => by
    have ih0 := spec_IsEffective.mono_l k
    · intro y0 y1 y2
      unfold spec_IsEffective.l0
      repeat' first
      | (with_reducible exact ih0 _ _ _)
      | (with_reducible exact LeO.refl _)
      | (with_reducible exact LeO.none _)
      | (with_reducible refine LeO.ite ?_ ?_)
      | (with_reducible refine LeO.bind ?_ (fun _ => ?_))
      | exact ih0 _ _ _
      | exact LeO.none _
      | refine LeO.ite ?_ ?_
      | refine LeO.bind ?_ (fun _ => ?_)
theorem spec_IsEffective.mono : ∀ a0 k, LeO (spec_IsEffective.f k a0) (spec_IsEffective.f (k + 1) a0) := by
  intro a0 k; have ih0 := spec_IsEffective.mono_l k; unfold spec_IsEffective.f
  repeat' first
      | (with_reducible exact ih0 _ _ _)
      | (with_reducible exact LeO.refl _)
      | (with_reducible exact LeO.none _)
      | (with_reducible refine LeO.ite ?_ ?_)
      | (with_reducible refine LeO.bind ?_ (fun _ => ?_))
      | exact ih0 _ _ _
      | exact LeO.none _
      | refine LeO.ite ?_ ?_
      | refine LeO.bind ?_ (fun _ => ?_)
end Go.Proofs.Ytjecgolakaiddaa.P
end

section
namespace Go.Proofs.Ytjecgolakaiddaa.P
open Go.RowKit Go.Proofs.YtjecgolakaiddaaW.PrintWords Go.Proofs.YtjecgolakaiddaaW.PrintLast Go.Proofs.YtjecgolakaiddaaW.PrintMore
attribute [local go_sem] max2_int min2_int max_two min_two max_three min_three max_four min_four
set_option linter.unusedVariables false
set_option linter.unusedSimpArgs false
def impl_IsEffective.l0 : Nat → List Int → Int → Int → Option (Bool)
  | 0, _, _, _ => none
  | k + 1, x5, x6, x7 => if x7 < x6 then (if 0 ≤ x7 then (if x7 < (x5.length : Int) then (if (rd x5 x7) < 0 then (some false) else (impl_IsEffective.l0 k x5 x6 (wrap64 (x7 + 1)))) else (none)) else (none)) else (some true)
def impl_IsEffective.f (k : Nat) (l0 : List Int) : Option (Bool) := impl_IsEffective.l0 k l0 (l0.length : Int) 0
theorem impl_IsEffective.mono_l : ∀ k, (∀ y0 y1 y2, LeO (impl_IsEffective.l0 k y0 y1 y2) (impl_IsEffective.l0 (k + 1) y0 y1 y2))
  | 0 => fun _ _ _ r h => by simp [impl_IsEffective.l0] at h
  | k + 1 => by
    have ih0 := impl_IsEffective.mono_l k
    · intro y0 y1 y2
      unfold impl_IsEffective.l0
      repeat' first
      | (with_reducible exact ih0 _ _ _)
      | (with_reducible exact LeO.refl _)
      | (with_reducible exact LeO.none _)
      | (with_reducible refine LeO.ite ?_ ?_)
      | (with_reducible refine LeO.bind ?_ (fun _ => ?_))
      | exact ih0 _ _ _
      | exact LeO.none _
      | refine LeO.ite ?_ ?_
      | refine LeO.bind ?_ (fun _ => ?_)
theorem impl_IsEffective.mono : ∀ a0 k, LeO (impl_IsEffective.f k a0) (impl_IsEffective.f (k + 1) a0) := by
  intro a0 k; have ih0 := impl_IsEffective.mono_l k; unfold impl_IsEffective.f
  repeat' first
      | (with_reducible exact ih0 _ _ _)
      | (with_reducible exact LeO.refl _)
      | (with_reducible exact LeO.none _)
      | (with_reducible refine LeO.ite ?_ ?_)
      | (with_reducible refine LeO.bind ?_ (fun _ => ?_))
      | exact ih0 _ _ _
      | exact LeO.none _
      | refine LeO.ite ?_ ?_
      | refine LeO.bind ?_ (fun _ => ?_)
end Go.Proofs.Ytjecgolakaiddaa.P
end

section
namespace Go.Proofs.Ytjecgolakaiddaa.P
open Go.RowKit Go.Proofs.YtjecgolakaiddaaW.PrintWords Go.Proofs.YtjecgolakaiddaaW.PrintLast Go.Proofs.YtjecgolakaiddaaW.PrintMore
attribute [local go_sem] max2_int min2_int max_two min_two max_three min_three max_four min_four
set_option linter.unusedVariables false
set_option linter.unusedSimpArgs false
def spec_PileOk.f (k : Nat) (a0_0 : Int) (l0_1 : List (S70)) (l1 : List Int) (a2 : Int) : Option (Bool) := (spec_DivisorOk.f k a0_0 l0_1 l1).bind fun t102 => (if t102 = true then ((spec_l01In.f a2 0 (wrap64 (a0_0 - 1))).bind fun t103 => (if t103 = true then ((spec_IsEffective.f k l1).bind fun t104 => (if t104 = true then (if 0 ≤ a2 then (if a2 < (l1.length : Int) then (some ((rd l1 a2) == 0)) else (none)) else (none)) else (some false))) else (some false))) else (some false))
theorem spec_PileOk.mono : ∀ a0 a1 a2 a3 k, LeO (spec_PileOk.f k a0 a1 a2 a3) (spec_PileOk.f (k + 1) a0 a1 a2 a3) := by
  intro a0 a1 a2 a3 k; unfold spec_PileOk.f
  repeat' first
      | (with_reducible exact spec_DivisorOk.mono _ _ _ _)
      | (with_reducible exact spec_IsEffective.mono _ _)
      | (with_reducible exact LeO.refl _)
      | (with_reducible exact LeO.none _)
      | (with_reducible refine LeO.ite ?_ ?_)
      | (with_reducible refine LeO.bind ?_ (fun _ => ?_))
      | exact spec_DivisorOk.mono _ _ _ _
      | exact spec_IsEffective.mono _ _
      | exact LeO.none _
      | refine LeO.ite ?_ ?_
      | refine LeO.bind ?_ (fun _ => ?_)
end Go.Proofs.Ytjecgolakaiddaa.P
end

section
namespace Go.Proofs.Ytjecgolakaiddaa.P
open Go.RowKit Go.Proofs.YtjecgolakaiddaaW.PrintWords Go.Proofs.YtjecgolakaiddaaW.PrintLast Go.Proofs.YtjecgolakaiddaaW.PrintMore
attribute [local go_sem] max2_int min2_int max_two min_two max_three min_three max_four min_four
set_option linter.unusedVariables false
set_option linter.unusedSimpArgs false
def impl_PileOk.f (k : Nat) (a0_0 : Int) (l0_1 : List (S70)) (l1 : List Int) (a2 : Int) : Option (Bool) := (impl_DivisorOk.f k a0_0 l0_1 l1).bind fun t102 => (if t102 = true then ((impl_within.f a2 0 (wrap64 (a0_0 - 1))).bind fun t103 => (if t103 = true then ((impl_IsEffective.f k l1).bind fun t104 => (if t104 = true then (if 0 ≤ a2 then (if a2 < (l1.length : Int) then (some ((rd l1 a2) == 0)) else (none)) else (none)) else (some false))) else (some false))) else (some false))
theorem impl_PileOk.mono : ∀ a0 a1 a2 a3 k, LeO (impl_PileOk.f k a0 a1 a2 a3) (impl_PileOk.f (k + 1) a0 a1 a2 a3) := by
  intro a0 a1 a2 a3 k; unfold impl_PileOk.f
  repeat' first
      | (with_reducible exact impl_DivisorOk.mono _ _ _ _)
      | (with_reducible exact impl_IsEffective.mono _ _)
      | (with_reducible exact LeO.refl _)
      | (with_reducible exact LeO.none _)
      | (with_reducible refine LeO.ite ?_ ?_)
      | (with_reducible refine LeO.bind ?_ (fun _ => ?_))
      | exact impl_DivisorOk.mono _ _ _ _
      | exact impl_IsEffective.mono _ _
      | exact LeO.none _
      | refine LeO.ite ?_ ?_
      | refine LeO.bind ?_ (fun _ => ?_)
end Go.Proofs.Ytjecgolakaiddaa.P
end

section
namespace Go.Proofs.Ytjecgolakaiddaa.P
open Go.RowKit Go.Proofs.YtjecgolakaiddaaW.PrintWords Go.Proofs.YtjecgolakaiddaaW.PrintLast Go.Proofs.YtjecgolakaiddaaW.PrintMore
attribute [local go_sem] max2_int min2_int max_two min_two max_three min_three max_four min_four
set_option linter.unusedVariables false
set_option linter.unusedSimpArgs false
def spec_Valence.l0 : Nat → Int → Int → List (S70) → Int → Int → Option (Int)
  | 0, _, _, _, _, _ => none
  | k + 1, x1, x5, x13, x14, x15 => if x15 < x14 then (if 0 ≤ x15 then (if x15 < (x13.length : Int) then (if ((rd_T70 x13 x15).f0) = x1 then (spec_Valence.l0 k x1 (wrap64 (x5 + 1)) x13 x14 (wrap64 (x15 + 1))) else (if ((rd_T70 x13 x15).f1) = x1 then (spec_Valence.l0 k x1 (wrap64 (x5 + 1)) x13 x14 (wrap64 (x15 + 1))) else (spec_Valence.l0 k x1 x5 x13 x14 (wrap64 (x15 + 1))))) else (none)) else (none)) else (some x5)
def spec_Valence.f (k : Nat) (a0_0 : Int) (l0_1 : List (S70)) (a1 : Int) : Option (Int) := (spec_l02Vert.f a0_0 l0_1 a1).bind fun t102 => (if t102 = true then (spec_Valence.l0 k a1 0 l0_1 (l0_1.length : Int) 0) else (some 0))
theorem spec_Valence.mono_l : ∀ k, (∀ y0 y1 y2 y3 y4, LeO (spec_Valence.l0 k y0 y1 y2 y3 y4) (spec_Valence.l0 (k + 1) y0 y1 y2 y3 y4))
  | 0 => fun _ _ _ _ _ r h => by simp [spec_Valence.l0] at h
  | k + 1 => by
    have ih0 := spec_Valence.mono_l k
    · intro y0 y1 y2 y3 y4
      unfold spec_Valence.l0
      repeat' first
      | (with_reducible exact ih0 _ _ _ _ _)
      | (with_reducible exact LeO.refl _)
      | (with_reducible exact LeO.none _)
      | (with_reducible refine LeO.ite ?_ ?_)
      | (with_reducible refine LeO.bind ?_ (fun _ => ?_))
      | exact ih0 _ _ _ _ _
      | exact LeO.none _
      | refine LeO.ite ?_ ?_
      | refine LeO.bind ?_ (fun _ => ?_)
theorem spec_Valence.mono : ∀ a0 a1 a2 k, LeO (spec_Valence.f k a0 a1 a2) (spec_Valence.f (k + 1) a0 a1 a2) := by
  intro a0 a1 a2 k; have ih0 := spec_Valence.mono_l k; unfold spec_Valence.f
  repeat' first
      | (with_reducible exact ih0 _ _ _ _ _)
      | (with_reducible exact LeO.refl _)
      | (with_reducible exact LeO.none _)
      | (with_reducible refine LeO.ite ?_ ?_)
      | (with_reducible refine LeO.bind ?_ (fun _ => ?_))
      | exact ih0 _ _ _ _ _
      | exact LeO.none _
      | refine LeO.ite ?_ ?_
      | refine LeO.bind ?_ (fun _ => ?_)
end Go.Proofs.Ytjecgolakaiddaa.P
end

section
namespace Go.Proofs.Ytjecgolakaiddaa.P
open Go.RowKit Go.Proofs.YtjecgolakaiddaaW.PrintWords Go.Proofs.YtjecgolakaiddaaW.PrintLast Go.Proofs.YtjecgolakaiddaaW.PrintMore
attribute [local go_sem] max2_int min2_int max_two min_two max_three min_three max_four min_four
set_option linter.unusedVariables false
set_option linter.unusedSimpArgs false
mutual
def impl_Valence.j0 : Nat → Int → Bool → Int → List (S70) → Option (Int)
  | 0, _, _, _, _ => none
  | k + 1, x1, x15, x102000, x102001 => if x15 = true then (some 0) else (impl_Valence.l0 k x1 0 x102001 (x102001.length : Int) 0)
def impl_Valence.l0 : Nat → Int → Int → List (S70) → Int → Int → Option (Int)
  | 0, _, _, _, _, _ => none
  | k + 1, x1, x5, x17, x18, x19 => if x19 < x18 then (if 0 ≤ x19 then (if x19 < (x17.length : Int) then (if ((rd_T70 x17 x19).f0) = x1 then (impl_Valence.l0 k x1 (wrap64 (x5 + 1)) x17 x18 (wrap64 (x19 + 1))) else (if ((rd_T70 x17 x19).f1) = x1 then (impl_Valence.l0 k x1 (wrap64 (x5 + 1)) x17 x18 (wrap64 (x19 + 1))) else (impl_Valence.l0 k x1 x5 x17 x18 (wrap64 (x19 + 1))))) else (none)) else (none)) else (some x5)
end
def impl_Valence.f (k : Nat) (a0_0 : Int) (l0_1 : List (S70)) (a1 : Int) : Option (Int) := if a1 < 0 then (impl_Valence.j0 k a1 true a0_0 l0_1) else (impl_Valence.j0 k a1 (decide (a1 ≥ a0_0)) a0_0 l0_1)
theorem impl_Valence.mono_l : ∀ k, (∀ y0 y1 y2 y3, LeO (impl_Valence.j0 k y0 y1 y2 y3) (impl_Valence.j0 (k + 1) y0 y1 y2 y3)) ∧ (∀ y0 y1 y2 y3 y4, LeO (impl_Valence.l0 k y0 y1 y2 y3 y4) (impl_Valence.l0 (k + 1) y0 y1 y2 y3 y4))
  | 0 => ⟨fun _ _ _ _ r h => by simp [impl_Valence.j0] at h, fun _ _ _ _ _ r h => by simp [impl_Valence.l0] at h⟩
  | k + 1 => by
    obtain ⟨ih0, ih1⟩ := impl_Valence.mono_l k
    refine ⟨?_, ?_⟩
    · intro y0 y1 y2 y3
      unfold impl_Valence.j0
      repeat' first
      | (with_reducible exact ih0 _ _ _ _)
      | (with_reducible exact ih1 _ _ _ _ _)
      | (with_reducible exact LeO.refl _)
      | (with_reducible exact LeO.none _)
      | (with_reducible refine LeO.ite ?_ ?_)
      | (with_reducible refine LeO.bind ?_ (fun _ => ?_))
      | exact ih0 _ _ _ _
      | exact ih1 _ _ _ _ _
      | exact LeO.none _
      | refine LeO.ite ?_ ?_
      | refine LeO.bind ?_ (fun _ => ?_)
    · intro y0 y1 y2 y3 y4
      unfold impl_Valence.l0
      repeat' first
      | (with_reducible exact ih0 _ _ _ _)
      | (with_reducible exact ih1 _ _ _ _ _)
      | (with_reducible exact LeO.refl _)
      | (with_reducible exact LeO.none _)
      | (with_reducible refine LeO.ite ?_ ?_)
      | (with_reducible refine LeO.bind ?_ (fun _ => ?_))
      | exact ih0 _ _ _ _
      | exact ih1 _ _ _ _ _
      | exact LeO.none _
      | refine LeO.ite ?_ ?_
      | refine LeO.bind ?_ (fun _ => ?_)
theorem impl_Valence.mono : ∀ a0 a1 a2 k, LeO (impl_Valence.f k a0 a1 a2) (impl_Valence.f (k + 1) a0 a1 a2) := by
  intro a0 a1 a2 k; obtain ⟨ih0, ih1⟩ := impl_Valence.mono_l k; unfold impl_Valence.f
  repeat' first
      | (with_reducible exact ih0 _ _ _ _)
      | (with_reducible exact ih1 _ _ _ _ _)
      | (with_reducible exact LeO.refl _)
      | (with_reducible exact LeO.none _)
      | (with_reducible refine LeO.ite ?_ ?_)
      | (with_reducible refine LeO.bind ?_ (fun _ => ?_))
      | exact ih0 _ _ _ _
      | exact ih1 _ _ _ _ _
      | exact LeO.none _
      | refine LeO.ite ?_ ?_
      | refine LeO.bind ?_ (fun _ => ?_)
end Go.Proofs.Ytjecgolakaiddaa.P
end

section
namespace Go.Proofs.Ytjecgolakaiddaa.Cf
set_option linter.unusedVariables false
set_option linter.unusedSimpArgs false
open Go.RowKit Go.Proofs.YtjecgolakaiddaaW.PrintWords Go.Proofs.Ytjecgolakaiddaa.P
/-- A divisor. -/
def dOk (n : Int) (es : List E) (d : List Int) : Bool := gOk n es && (decide ((d.length : Int) = n) && decide (∀ x ∈ d, -60 ≤ x ∧ x ≤ 60))
theorem dOk_iff {n : Int} {es : List E} {d : List Int} : dOk n es d = true ↔ GOk n es ∧ (d.length : Int) = n ∧ ∀ x ∈ d, -60 ≤ x ∧ x ≤ 60 := by
  unfold dOk
  simp only [Bool.and_eq_true, decide_eq_true_eq, gOk_iff]
theorem specDiv_l0 (o : List Int) (hl : o.length ≤ 1048576) : ∀ (d i : Nat), i + d = o.length → Ep (fun k => spec_DivisorOk.l0 k o (o.length : Int) (i : Int)) (· = decide (∀ x ∈ o.drop i, -60 ≤ x ∧ x ≤ 60)) := by
  intro d
  induction d with
  | zero =>
    intro i hi
    refine Ep.up ?_
    simp only [spec_DivisorOk.l0]
    refine Ep.neg (by omega) (Ep.now ?_)
    rw [List.drop_of_length_le (by omega)]
    simp
  | succ d ih =>
    intro i hi
    have hlt : i < o.length := by omega
    refine Ep.up ?_
    simp only [spec_DivisorOk.l0]
    refine Ep.pos (by omega) (Ep.pos (by omega) (Ep.pos (by omega) ?_))
    rw [rd_get hlt, wrap_succ (by omega)]
    refine Ep.bind0 (l01In_eq _ _ _) ?_
    refine Ep.ite (fun h => ?_) (fun h => Ep.now ?_)
    · have h' : -60 ≤ o[i] ∧ o[i] ≤ 60 := by simpa using h
      refine (ih (i + 1) (by omega)).mono ?_
      rintro _ rfl
      simp only [forall_drop' hlt, h', true_and]
    · have h' : ¬ (-60 ≤ o[i] ∧ o[i] ≤ 60) := by simpa using h
      simp only [forall_drop' hlt, h', false_and, decide_false]
theorem specDiv (n : Int) (es : List E) (d : List Int) (hl : d.length ≤ 1048576) : Ep (fun k => spec_DivisorOk.f k n es d) (· = dOk n es d) := by
  simp only [spec_DivisorOk.f, dOk]
  refine Ep.bind (specGraph n es) ?_
  rintro _ rfl
  refine Ep.ite (fun hg => ?_) (fun hg => ?_)
  · refine Ep.up ?_
    simp only [spec_DivisorOk.j0]
    refine Ep.ite (fun h => Ep.now ?_) (fun h => ?_)
    · have h' : ¬ (d.length : Int) = n := by simpa using h
      simp [h']
    · have h' : (d.length : Int) = n := by simpa using h
      refine (specDiv_l0 d hl d.length 0 (by omega)).mono ?_
      rintro _ rfl
      rw [List.drop_zero, hg]
      simp only [h', decide_true, Bool.true_and]
  · refine Ep.up ?_
    simp only [spec_DivisorOk.j0]
    refine Ep.pos trivial (Ep.now ?_)
    have : gOk n es = false := by simpa using hg
    simp [this]
theorem implDiv (n : Int) (es : List E) (d : List Int) (hl : d.length ≤ 1048576) : Ep (fun k => impl_DivisorOk.f k n es d) (· = dOk n es d) := by
  simp only [impl_DivisorOk.f, dOk]
  refine Ep.bind0 (implGraph n es) (Ep.ite (fun hg => ?_) (fun hg => Ep.now ?_))
  · refine Ep.ite (fun h => ?_) (fun h => Ep.now ?_)
    · refine Ep.bind (allWithin_ok d (-60) 60 hl) ?_
      rintro _ rfl
      refine Ep.now ?_
      rw [hg]
      simp only [h, decide_true, Bool.true_and]
    · simp [h]
  · have : gOk n es = false := by simpa using hg
    simp [this]
end Go.Proofs.Ytjecgolakaiddaa.Cf
end

section
namespace Go.Proofs.Ytjecgolakaiddaa.P
open Go.RowKit Go.Proofs.YtjecgolakaiddaaW.PrintWords Go.Proofs.YtjecgolakaiddaaW.PrintLast Go.Proofs.YtjecgolakaiddaaW.PrintMore
attribute [local go_sem] max2_int min2_int max_two min_two max_three min_three max_four min_four
set_option linter.unusedVariables false
set_option linter.unusedSimpArgs false
def spec_l10Unstable.l0 : Nat → Int → List Int → Int → Int → Int → List (S70) → Option (Int)
  | 0, _, _, _, _, _, _ => none
  | k + 1, x2, x9, x10, x11, x102000, x102001 => if x11 < x10 then (if 0 ≤ x11 then (if x11 < (x9.length : Int) then (if x11 = x2 then (spec_l10Unstable.l0 k x2 x9 x10 (wrap64 (x11 + 1)) x102000 x102001) else ((spec_Valence.f k x102000 x102001 x11).bind fun t103 => (if (rd x9 x11) ≥ t103 then (some x11) else (spec_l10Unstable.l0 k x2 x9 x10 (wrap64 (x11 + 1)) x102000 x102001)))) else (none)) else (none)) else (some (-1))
def spec_l10Unstable.f (k : Nat) (a0_0 : Int) (l0_1 : List (S70)) (l1 : List Int) (a2 : Int) : Option (Int) := spec_l10Unstable.l0 k a2 l1 (l1.length : Int) 0 a0_0 l0_1
theorem spec_l10Unstable.mono_l : ∀ k, (∀ y0 y1 y2 y3 y4 y5, LeO (spec_l10Unstable.l0 k y0 y1 y2 y3 y4 y5) (spec_l10Unstable.l0 (k + 1) y0 y1 y2 y3 y4 y5))
  | 0 => fun _ _ _ _ _ _ r h => by simp [spec_l10Unstable.l0] at h
  | k + 1 => by
    have ih0 := spec_l10Unstable.mono_l k
    · intro y0 y1 y2 y3 y4 y5
      unfold spec_l10Unstable.l0
      repeat' first
      | (with_reducible exact ih0 _ _ _ _ _ _)
      | (with_reducible exact spec_Valence.mono _ _ _ _)
      | (with_reducible exact LeO.refl _)
      | (with_reducible exact LeO.none _)
      | (with_reducible refine LeO.ite ?_ ?_)
      | (with_reducible refine LeO.bind ?_ (fun _ => ?_))
      | exact ih0 _ _ _ _ _ _
      | exact spec_Valence.mono _ _ _ _
      | exact LeO.none _
      | refine LeO.ite ?_ ?_
      | refine LeO.bind ?_ (fun _ => ?_)
theorem spec_l10Unstable.mono : ∀ a0 a1 a2 a3 k, LeO (spec_l10Unstable.f k a0 a1 a2 a3) (spec_l10Unstable.f (k + 1) a0 a1 a2 a3) := by
  intro a0 a1 a2 a3 k; have ih0 := spec_l10Unstable.mono_l k; unfold spec_l10Unstable.f
  repeat' first
      | (with_reducible exact ih0 _ _ _ _ _ _)
      | (with_reducible exact spec_Valence.mono _ _ _ _)
      | (with_reducible exact LeO.refl _)
      | (with_reducible exact LeO.none _)
      | (with_reducible refine LeO.ite ?_ ?_)
      | (with_reducible refine LeO.bind ?_ (fun _ => ?_))
      | exact ih0 _ _ _ _ _ _
      | exact spec_Valence.mono _ _ _ _
      | exact LeO.none _
      | refine LeO.ite ?_ ?_
      | refine LeO.bind ?_ (fun _ => ?_)
end Go.Proofs.Ytjecgolakaiddaa.P
end

section
namespace Go.Proofs.Ytjecgolakaiddaa.P
open Go.RowKit Go.Proofs.YtjecgolakaiddaaW.PrintWords Go.Proofs.YtjecgolakaiddaaW.PrintLast Go.Proofs.YtjecgolakaiddaaW.PrintMore
attribute [local go_sem] max2_int min2_int max_two min_two max_three min_three max_four min_four
set_option linter.unusedVariables false
set_option linter.unusedSimpArgs false
def impl_unstable.l0 : Nat → Int → List Int → Int → Int → Int → List (S70) → Option (Int)
  | 0, _, _, _, _, _, _ => none
  | k + 1, x2, x9, x10, x11, x102000, x102001 => if x11 < x10 then (if 0 ≤ x11 then (if x11 < (x9.length : Int) then (if x11 = x2 then (impl_unstable.l0 k x2 x9 x10 (wrap64 (x11 + 1)) x102000 x102001) else ((impl_Valence.f k x102000 x102001 x11).bind fun t103 => (if (rd x9 x11) ≥ t103 then (some x11) else (impl_unstable.l0 k x2 x9 x10 (wrap64 (x11 + 1)) x102000 x102001)))) else (none)) else (none)) else (some (-1))
def impl_unstable.f (k : Nat) (a0_0 : Int) (l0_1 : List (S70)) (l1 : List Int) (a2 : Int) : Option (Int) := impl_unstable.l0 k a2 l1 (l1.length : Int) 0 a0_0 l0_1
theorem impl_unstable.mono_l : ∀ k, (∀ y0 y1 y2 y3 y4 y5, LeO (impl_unstable.l0 k y0 y1 y2 y3 y4 y5) (impl_unstable.l0 (k + 1) y0 y1 y2 y3 y4 y5))
  | 0 => fun _ _ _ _ _ _ r h => by simp [impl_unstable.l0] at h
  | k + 1 => by
    have ih0 := impl_unstable.mono_l k
    · intro y0 y1 y2 y3 y4 y5
      unfold impl_unstable.l0
      repeat' first
      | (with_reducible exact ih0 _ _ _ _ _ _)
      | (with_reducible exact impl_Valence.mono _ _ _ _)
      | (with_reducible exact LeO.refl _)
      | (with_reducible exact LeO.none _)
      | (with_reducible refine LeO.ite ?_ ?_)
      | (with_reducible refine LeO.bind ?_ (fun _ => ?_))
      | exact ih0 _ _ _ _ _ _
      | exact impl_Valence.mono _ _ _ _
      | exact LeO.none _
      | refine LeO.ite ?_ ?_
      | refine LeO.bind ?_ (fun _ => ?_)
theorem impl_unstable.mono : ∀ a0 a1 a2 a3 k, LeO (impl_unstable.f k a0 a1 a2 a3) (impl_unstable.f (k + 1) a0 a1 a2 a3) := by
  intro a0 a1 a2 a3 k; have ih0 := impl_unstable.mono_l k; unfold impl_unstable.f
  repeat' first
      | (with_reducible exact ih0 _ _ _ _ _ _)
      | (with_reducible exact impl_Valence.mono _ _ _ _)
      | (with_reducible exact LeO.refl _)
      | (with_reducible exact LeO.none _)
      | (with_reducible refine LeO.ite ?_ ?_)
      | (with_reducible refine LeO.bind ?_ (fun _ => ?_))
      | exact ih0 _ _ _ _ _ _
      | exact impl_Valence.mono _ _ _ _
      | exact LeO.none _
      | refine LeO.ite ?_ ?_
      | refine LeO.bind ?_ (fun _ => ?_)
end Go.Proofs.Ytjecgolakaiddaa.P
end

section
namespace Go.Proofs.Ytjecgolakaiddaa.P
open Go.RowKit Go.Proofs.YtjecgolakaiddaaW.PrintWords Go.Proofs.YtjecgolakaiddaaW.PrintLast Go.Proofs.YtjecgolakaiddaaW.PrintMore
attribute [local go_sem] max2_int min2_int max_two min_two max_three min_three max_four min_four
set_option linter.unusedVariables false
set_option linter.unusedSimpArgs false
def spec_IsStable.f (k : Nat) (a0_0 : Int) (l0_1 : List (S70)) (l1 : List Int) (a2 : Int) : Option (Bool) := (spec_PileOk.f k a0_0 l0_1 l1 a2).bind fun t102 => (if t102 = true then ((spec_l10Unstable.f k a0_0 l0_1 l1 a2).bind fun t103 => (some (decide (t103 < 0)))) else (some false))
theorem spec_IsStable.mono : ∀ a0 a1 a2 a3 k, LeO (spec_IsStable.f k a0 a1 a2 a3) (spec_IsStable.f (k + 1) a0 a1 a2 a3) := by
  intro a0 a1 a2 a3 k; unfold spec_IsStable.f
  repeat' first
      | (with_reducible exact spec_PileOk.mono _ _ _ _ _)
      | (with_reducible exact spec_l10Unstable.mono _ _ _ _ _)
      | (with_reducible exact LeO.refl _)
      | (with_reducible exact LeO.none _)
      | (with_reducible refine LeO.ite ?_ ?_)
      | (with_reducible refine LeO.bind ?_ (fun _ => ?_))
      | exact spec_PileOk.mono _ _ _ _ _
      | exact spec_l10Unstable.mono _ _ _ _ _
      | exact LeO.none _
      | refine LeO.ite ?_ ?_
      | refine LeO.bind ?_ (fun _ => ?_)
end Go.Proofs.Ytjecgolakaiddaa.P
end

section
namespace Go.Proofs.Ytjecgolakaiddaa.P
open Go.RowKit Go.Proofs.YtjecgolakaiddaaW.PrintWords Go.Proofs.YtjecgolakaiddaaW.PrintLast Go.Proofs.YtjecgolakaiddaaW.PrintMore
attribute [local go_sem] max2_int min2_int max_two min_two max_three min_three max_four min_four
set_option linter.unusedVariables false
set_option linter.unusedSimpArgs false
def impl_IsStable.f (k : Nat) (a0_0 : Int) (l0_1 : List (S70)) (l1 : List Int) (a2 : Int) : Option (Bool) := (impl_PileOk.f k a0_0 l0_1 l1 a2).bind fun t102 => (if t102 = true then ((impl_unstable.f k a0_0 l0_1 l1 a2).bind fun t103 => (some (decide (t103 < 0)))) else (some false))
theorem impl_IsStable.mono : ∀ a0 a1 a2 a3 k, LeO (impl_IsStable.f k a0 a1 a2 a3) (impl_IsStable.f (k + 1) a0 a1 a2 a3) := by
  intro a0 a1 a2 a3 k; unfold impl_IsStable.f
  repeat' first
      | (with_reducible exact impl_PileOk.mono _ _ _ _ _)
      | (with_reducible exact impl_unstable.mono _ _ _ _ _)
      | (with_reducible exact LeO.refl _)
      | (with_reducible exact LeO.none _)
      | (with_reducible refine LeO.ite ?_ ?_)
      | (with_reducible refine LeO.bind ?_ (fun _ => ?_))
      | exact impl_PileOk.mono _ _ _ _ _
      | exact impl_unstable.mono _ _ _ _ _
      | exact LeO.none _
      | refine LeO.ite ?_ ?_
      | refine LeO.bind ?_ (fun _ => ?_)
end Go.Proofs.Ytjecgolakaiddaa.P
end

section
namespace Go.Proofs.Ytjecgolakaiddaa.Cf
set_option linter.unusedVariables false
set_option linter.unusedSimpArgs false
/-- The edges from v to a list of vertices. -/
def burnSum (es : List E) (b : List Int) (v : Int) : Int := (b.map (mult es v)).sum
inductive Burn (n : Nat) (es : List E) (d : Int → Int) (q : Int) : List Int → Prop
  | start : Burn n es d q [q]
  | step {b : List Int} {v : Int} : Burn n es d q b → 0 ≤ v → v < n → v ∉ b → d v < burnSum es b v → Burn n es d q (b ++ [v])
theorem Burn.ok {n : Nat} {es : List E} {d : Int → Int} {q : Int} {b : List Int} (hq : 0 ≤ q ∧ q < n) (h : Burn n es d q b) : b.Nodup ∧ (∀ v ∈ b, 0 ≤ v ∧ v < n) ∧ q ∈ b := by
  induction h with
  | start => exact ⟨by simp, fun v hv => by rw [List.mem_singleton.1 hv]; exact hq, by simp⟩
  | @step b v _ h0 h1 hv _ ih =>
    refine ⟨?_, fun x hx => ?_, List.mem_append_left _ ih.2.2⟩
    · rw [List.nodup_append]
      exact ⟨ih.1, by simp, fun a ha c hc => by
        rw [List.mem_singleton.1 hc]
        rintro rfl
        exact hv ha⟩
    · rcases List.mem_append.1 hx with hx | hx
      · exact ih.2.1 x hx
      · rw [List.mem_singleton.1 hx]
        exact ⟨h0, h1⟩
theorem Burn.len {n : Nat} {es : List E} {d : Int → Int} {q : Int} {b : List Int} (hq : 0 ≤ q ∧ q < n) (h : Burn n es d q b) : b.length ≤ n := nodup_len n b (h.ok hq).1 (h.ok hq).2.1
theorem sum_ind (x : Int) : ∀ (b : List Int), b.Nodup → (b.map (fun w => if x = w then (1 : Int) else 0)).sum = if x ∈ b then 1 else 0
  | [], _ => by simp
  | a :: r, h => by
    have ih := sum_ind x r (List.nodup_cons.1 h).2
    have hn := (List.nodup_cons.1 h).1
    simp only [List.map_cons, List.sum_cons, ih, List.mem_cons]
    by_cases e : x = a
    · subst e
      simp [hn]
    · simp [e]
theorem sum_zero (b : List Int) : (b.map (fun _ => (0 : Int))).sum = 0 := by
  induction b with
  | nil => rfl
  | cons a r ih => simp only [List.map_cons, List.sum_cons, ih]; rfl
theorem sum_add (b : List Int) (f g : Int → Int) : (b.map (fun w => f w + g w)).sum = (b.map f).sum + (b.map g).sum := by
  induction b with
  | nil => rfl
  | cons a r ih => simp only [List.map_cons, List.sum_cons, ih]; omega
/-- What does not burn takes as much as burns at its edges. -/
theorem burnSum_lap {n : Int} {es : List E} (hes : ∀ e ∈ es, EOk n e) {b : List Int} (hb : b.Nodup) {v : Int} (hv : v ∉ b) : burnSum es b v = lap es (ind (fun x => decide (x ∉ b))) v := by
  induction es with
  | nil =>
    unfold burnSum
    rw [lap_nil]
    exact sum_zero b
  | cons e r ih =>
    have ih := ih (fun x hx => hes x (List.mem_cons_of_mem _ hx))
    have hk := hes e List.mem_cons_self
    unfold EOk at hk
    have h1 : burnSum (e :: r) b v = (b.map (fun w => multE v w e)).sum + burnSum r b v := by
      unfold burnSum
      rw [← sum_add]
      congr 1
    rw [h1, ih, lap_cons]
    congr 1
    unfold lapE ind multE
    by_cases a : e.f0 = v
    · have c : ¬ e.f1 = v := by omega
      have key : (b.map (fun w => if (e.f0 = v ∧ e.f1 = w) ∨ (e.f0 = w ∧ e.f1 = v) then (1 : Int) else 0)).sum = if e.f1 ∈ b then 1 else 0 := by
        rw [← sum_ind e.f1 b hb]
        congr 1
        apply List.map_congr_left
        intro w _
        simp [a, c]
      rw [key, if_pos a, if_neg c, a]
      by_cases m : e.f1 ∈ b <;> simp [m, hv]
    · by_cases c : e.f1 = v
      · have key : (b.map (fun w => if (e.f0 = v ∧ e.f1 = w) ∨ (e.f0 = w ∧ e.f1 = v) then (1 : Int) else 0)).sum = if e.f0 ∈ b then 1 else 0 := by
          rw [← sum_ind e.f0 b hb]
          congr 1
          apply List.map_congr_left
          intro w _
          simp [a, c]
        rw [key, if_neg a, if_pos c, c]
        by_cases m : e.f0 ∈ b <;> simp [m, hv]
      · have key : (b.map (fun w => if (e.f0 = v ∧ e.f1 = w) ∨ (e.f0 = w ∧ e.f1 = v) then (1 : Int) else 0)).sum = 0 := by
          exact (congrArg List.sum (List.map_congr_left (g := fun _ => (0 : Int)) (fun w _ => by simp [a, c]))).trans (sum_zero b)
        rw [key, if_neg a, if_neg c]
        rfl
/-- A lesser set takes more. -/
theorem lap_ind_mono {es : List E} {S T : Int → Bool} {v : Int} (hv : S v = true) (hw : T v = true) (h : ∀ x, S x = true → T x = true) : lap es (ind T) v ≤ lap es (ind S) v := by
  apply sumE_le
  intro e _
  have h0 := h e.f0
  have h1 := h e.f1
  unfold lapE ind
  by_cases a : e.f0 = v
  · by_cases b : e.f1 = v
    · simp [a, b]
    · rw [if_pos a, if_pos a, if_neg b, if_neg b, a, hv, hw]
      cases hs : S e.f1 <;> cases ht : T e.f1 <;> simp_all
  · by_cases b : e.f1 = v
    · rw [if_neg a, if_neg a, if_pos b, if_pos b, b, hv, hw]
      cases hs : S e.f0 <;> cases ht : T e.f0 <;> simp_all
    · rw [if_neg a, if_neg a, if_neg b, if_neg b]
      exact Int.le_refl _
theorem Burn.meets {n : Nat} {es : List E} (hes : ∀ e ∈ es, EOk n e) {d : Int → Int} {q : Int} (hq : 0 ≤ q ∧ q < n) {b : List Int} (h : Burn n es d q b) {S : Int → Bool} (hS : S q = false) : (∀ v ∈ b, S v = false) ∨ ∃ v : Int, 0 ≤ v ∧ v < n ∧ S v = true ∧ d v < lap es (ind S) v := by
  induction h with
  | start => exact .inl (fun v hv => by rw [List.mem_singleton.1 hv]; exact hS)
  | @step b v hb h0 h1 hv hlt ih =>
    rcases ih with ih | ih
    · by_cases hx : S v = true
      · right
        refine ⟨v, h0, h1, hx, ?_⟩
        rw [burnSum_lap hes (hb.ok hq).1 hv] at hlt
        have := lap_ind_mono (es := es) (S := S) (T := fun x => decide (x ∉ b)) hx (by simpa using hv) (fun x hx => by
          simp only [decide_eq_true_eq]
          intro hm
          rw [ih x hm] at hx
          cases hx)
        omega
      · left
        intro x hm
        rcases List.mem_append.1 hm with hm | hm
        · exact ih x hm
        · rw [List.mem_singleton.1 hm]
          simpa using hx
    · exact .inr ih
/-- All burn: the divisor is reduced. -/
theorem Burn.red {n : Nat} {es : List E} (hes : ∀ e ∈ es, EOk n e) {d : Int → Int} {q : Int} (hq : 0 ≤ q ∧ q < n) {b : List Int} (h : Burn n es d q b) (hl : b.length = n) (hd : ∀ v : Int, 0 ≤ v → v < n → v ≠ q → 0 ≤ d v) : Red n es q d := by
  refine ⟨hd, fun S hS hx => ?_⟩
  rcases h.meets hes hq hS with hb | hb
  · exfalso
    obtain ⟨v, h0, h1, hv⟩ := hx
    have : v ∈ b := by
      apply Classical.byContradiction
      intro hn
      have := nodup_len n (v :: b) (List.nodup_cons.2 ⟨hn, (h.ok hq).1⟩) (fun x hx => by
        rcases List.mem_cons.1 hx with rfl | hx
        · exact ⟨h0, h1⟩
        · exact (h.ok hq).2.1 x hx)
      simp at this
      omega
    rw [hb v this] at hv
    cases hv
  · exact hb
end Go.Proofs.Ytjecgolakaiddaa.Cf
end

section
namespace Go.Proofs.Ytjecgolakaiddaa.Cf
set_option linter.unusedVariables false
set_option linter.unusedSimpArgs false
theorem sumN_le_const {n : Nat} {f : Nat → Int} {c : Int} (h : ∀ i, i < n → f i ≤ c) : sumN n f ≤ n * c := by
  rw [← sumN_const]
  exact sumN_le h
theorem sumN_nonneg {n : Nat} {f : Nat → Int} (h : ∀ i, i < n → 0 ≤ f i) : 0 ≤ sumN n f := by
  have := sumN_le (n := n) (f := fun _ => 0) (g := f) h
  rw [sumN_zero] at this
  exact this
/-- Borrowing is toppling of what is missing. -/
def dual (es : List E) (d : Int → Int) (v : Int) : Int := val es v - 1 - d v
structure Sets (n : Nat) (es : List E) (q : Int) (d u : Int → Int) : Prop where
  pos : ∀ w, 0 ≤ u w
  at_q : u q = 0
  keeps : ∀ v : Int, 0 ≤ v → v < n → v ≠ q → 0 ≤ d v - lap es u v
theorem Sets.zero {n : Nat} {es : List E} {q : Int} {d : Int → Int} (h : ∀ v : Int, 0 ≤ v → v < n → v ≠ q → 0 ≤ d v) : Sets n es q d (fun _ => 0) where
  pos := fun _ => Int.le_refl _
  at_q := rfl
  keeps := fun v h0 h1 h2 => by
    rw [lap_const (c := 0) (fun _ _ => ⟨rfl, rfl⟩)]
    have := h v h0 h1 h2
    omega
/-- The first vertex from i on that burns, or -1. -/
def nextB (es : List E) (d : Int → Int) (b : List Int) : Nat → Nat → Int
  | 0, _ => -1
  | k + 1, i => if (i : Int) ∉ b ∧ d i < burnSum es b i then i else nextB es d b k (i + 1)
theorem nextB_ok (es : List E) (d : Int → Int) (b : List Int) : ∀ (k i : Nat), (nextB es d b k i = -1 ∧ ∀ j : Nat, i ≤ j → j < i + k → (j : Int) ∉ b → burnSum es b j ≤ d j) ∨ ((i : Int) ≤ nextB es d b k i ∧ nextB es d b k i < i + k ∧ nextB es d b k i ∉ b ∧ d (nextB es d b k i) < burnSum es b (nextB es d b k i))
  | 0, i => .inl ⟨rfl, fun j h0 h1 => by omega⟩
  | k + 1, i => by
    unfold nextB
    by_cases h : (i : Int) ∉ b ∧ d i < burnSum es b i
    · rw [if_pos h]
      exact .inr ⟨by omega, by omega, h.1, h.2⟩
    · rw [if_neg h]
      rcases nextB_ok es d b k (i + 1) with ⟨h1, h2⟩ | ⟨h1, h2, h3⟩
      · refine .inl ⟨h1, fun j h3 h4 h5 => ?_⟩
        by_cases e : j = i
        · subst e
          apply Classical.byContradiction
          intro hc
          exact h ⟨h5, by omega⟩
        · exact h2 j (by omega) (by omega) h5
      · exact .inr ⟨by omega, by omega, h3⟩
def burnW (n : Nat) (es : List E) (d : Int → Int) : Nat → List Int → List Int
  | 0, b => b
  | k + 1, b => if nextB es d b n 0 < 0 then b else burnW n es d k (b ++ [nextB es d b n 0])
def burnF (n : Nat) (es : List E) (d : Int → Int) (q : Int) : List Int := burnW n es d n [q]
def RedTo (n : Nat) (es : List E) (q : Int) (d x s : Int → Int) : Prop := Red n es q x ∧ s q = 0 ∧ ∀ v : Int, 0 ≤ v → v < n → x v = d v - lap es s v
end Go.Proofs.Ytjecgolakaiddaa.Cf
end

section
namespace Go.Proofs.Ytjecgolakaiddaa.Cf
set_option linter.unusedVariables false
set_option linter.unusedSimpArgs false
open Go.Proofs.YtjecgolakaiddaaW.PrintWords
/-- A list's numbers lie between -B and B. -/
def Bd (x : List Int) (B : Int) : Prop := ∀ w : Int, 0 ≤ w → w < x.length → -B ≤ rd x w ∧ rd x w ≤ B
theorem Bd.mono {x : List Int} {B B' : Int} (h : Bd x B) (hB : B ≤ B') : Bd x B' := fun w h0 h1 => by have := h w h0 h1; omega
/-- The list c tells s on the first n numbers. -/
def Rep (n : Nat) (c : List Int) (s : Int → Int) : Prop := c.length = n ∧ ∀ w : Int, 0 ≤ w → w < n → rd c w = s w
theorem rd_replicate (n : Nat) (v : Int) : rd (List.replicate n (0 : Int)) v = 0 := by
  unfold rd
  rw [List.getD_eq_getElem?_getD]
  by_cases h : v.toNat < n
  · rw [List.getElem?_replicate_of_lt h]; rfl
  · rw [List.getElem?_eq_none (by simp; omega)]; rfl
theorem Rep.zero (n : Nat) : Rep n (List.replicate n (0 : Int)) (fun _ => 0) := ⟨by simp, fun w _ _ => rd_replicate n w⟩
def Reduced (n : Nat) (es : List E) (q : Int) (d : List Int) (r : List Int × List Int) : Prop := r.1.length = n ∧ r.2.length = n ∧ RedTo n es q (rd d) (rd r.1) (rd r.2)
end Go.Proofs.Ytjecgolakaiddaa.Cf
end

section
namespace Go.Proofs.Ytjecgolakaiddaa.Cf
set_option linter.unusedVariables false
set_option linter.unusedSimpArgs false
open Go.Proofs.YtjecgolakaiddaaW.PrintWords
/-- The first vertex in debt, from one on; or -1. -/
def debtF (q : Int) (p : List Int) : Nat → Nat → Int
  | 0, _ => -1
  | d + 1, i => if (i : Int) = q then debtF q p d (i + 1) else if rd p i < 0 then i else debtF q p d (i + 1)
/-- The edges to what burns, counted over all vertices. -/
theorem sum_pick (f : Int → Int) (n : Nat) : ∀ (b : List Int), b.Nodup → (∀ v ∈ b, 0 ≤ v ∧ v < n) → sumN n (fun w => if (w : Int) ∈ b then f w else 0) = (b.map f).sum
  | [], _, _ => by simp [sumN_zero]
  | a :: r, hb, hr => by
    have ha := hr a List.mem_cons_self
    rw [List.map_cons, List.sum_cons, ← sum_pick f n r (List.nodup_cons.1 hb).2 (fun v hv => hr v (List.mem_cons_of_mem _ hv)), ← sumN_one (n := n) a.toNat (by omega) (f a), ← sumN_add]
    apply sumN_congr
    intro i hi
    by_cases e : i = a.toNat
    · have e' : (i : Int) = a := by omega
      rw [if_pos e, e', if_pos List.mem_cons_self, if_neg (List.nodup_cons.1 hb).1]
      omega
    · have e' : (i : Int) ≠ a := by omega
      rw [if_neg e]
      simp [e']
end Go.Proofs.Ytjecgolakaiddaa.Cf
end

section
namespace Go.Proofs.Ytjecgolakaiddaa.P
open Go.RowKit Go.Proofs.YtjecgolakaiddaaW.PrintWords Go.Proofs.YtjecgolakaiddaaW.PrintLast Go.Proofs.YtjecgolakaiddaaW.PrintMore
attribute [local go_sem] max2_int min2_int max_two min_two max_three min_three max_four min_four
set_option linter.unusedVariables false
set_option linter.unusedSimpArgs false
def spec_l04Fire.l0 : Nat → List Int → List Int → List (S70) → Int → Int → Option (List Int)
  | 0, _, _, _, _, _ => none
  | k + 1, x2, x7, x14, x15, x16 => if x16 < x15 then (if 0 ≤ x16 then (if x16 < (x14.length : Int) then (if 0 ≤ ((rd_T70 x14 x16).f0) then (if ((rd_T70 x14 x16).f0) < (x7.length : Int) then (if ((rd_T70 x14 x16).f0) < (x2.length : Int) then (if 0 ≤ ((rd_T70 x14 x16).f1) then (if ((rd_T70 x14 x16).f1) < (x2.length : Int) then ((some (x7.set (((rd_T70 x14 x16).f0) : Int).toNat (wrap64 ((wrap64 ((rd x7 ((rd_T70 x14 x16).f0)) - (rd x2 ((rd_T70 x14 x16).f0)))) + (rd x2 ((rd_T70 x14 x16).f1)))) : List Int)).bind fun y113 => (if ((rd_T70 x14 x16).f1) < (x7.length : Int) then (spec_l04Fire.l0 k x2 (y113.set (((rd_T70 x14 x16).f1) : Int).toNat (wrap64 ((wrap64 ((rd y113 ((rd_T70 x14 x16).f1)) - (rd x2 ((rd_T70 x14 x16).f1)))) + (rd x2 ((rd_T70 x14 x16).f0))))) x14 x15 (wrap64 (x16 + 1))) else (none))) else (none)) else (none)) else (none)) else (none)) else (none)) else (none)) else (none)) else (some x7)
def spec_l04Fire.f (k : Nat) (a0_0 : Int) (l0_1 : List (S70)) (l1 : List Int) (l2 : List Int) : Option (List Int) := (some (([] : List Int) : List Int)).bind fun y102 => (if y102.length + l1.length < 17592186044416 then (spec_l04Fire.l0 k l2 (y102 ++ l1) l0_1 (l0_1.length : Int) 0) else (none))
theorem spec_l04Fire.mono_l : ∀ k, (∀ y0 y1 y2 y3 y4, LeO (spec_l04Fire.l0 k y0 y1 y2 y3 y4) (spec_l04Fire.l0 (k + 1) y0 y1 y2 y3 y4))
  | 0 => fun _ _ _ _ _ r h => by simp [spec_l04Fire.l0] at h
  | k + 1 => by
    have ih0 := spec_l04Fire.mono_l k
    · intro y0 y1 y2 y3 y4
      unfold spec_l04Fire.l0
      repeat' first
      | (with_reducible exact ih0 _ _ _ _ _)
      | (with_reducible exact LeO.refl _)
      | (with_reducible exact LeO.none _)
      | (with_reducible refine LeO.ite ?_ ?_)
      | (with_reducible refine LeO.bind ?_ (fun _ => ?_))
      | exact ih0 _ _ _ _ _
      | exact LeO.none _
      | refine LeO.ite ?_ ?_
      | refine LeO.bind ?_ (fun _ => ?_)
theorem spec_l04Fire.mono : ∀ a0 a1 a2 a3 k, LeO (spec_l04Fire.f k a0 a1 a2 a3) (spec_l04Fire.f (k + 1) a0 a1 a2 a3) := by
  intro a0 a1 a2 a3 k; have ih0 := spec_l04Fire.mono_l k; unfold spec_l04Fire.f
  repeat' first
      | (with_reducible exact ih0 _ _ _ _ _)
      | (with_reducible exact LeO.refl _)
      | (with_reducible exact LeO.none _)
      | (with_reducible refine LeO.ite ?_ ?_)
      | (with_reducible refine LeO.bind ?_ (fun _ => ?_))
      | exact ih0 _ _ _ _ _
      | exact LeO.none _
      | refine LeO.ite ?_ ?_
      | refine LeO.bind ?_ (fun _ => ?_)
end Go.Proofs.Ytjecgolakaiddaa.P
end

section
namespace Go.Proofs.Ytjecgolakaiddaa.P
open Go.RowKit Go.Proofs.YtjecgolakaiddaaW.PrintWords Go.Proofs.YtjecgolakaiddaaW.PrintLast Go.Proofs.YtjecgolakaiddaaW.PrintMore
attribute [local go_sem] max2_int min2_int max_two min_two max_three min_three max_four min_four
set_option linter.unusedVariables false
set_option linter.unusedSimpArgs false
def impl_fire.l0 : Nat → List Int → Int → Int → List (S70) → Int → Int → Option (List Int)
  | 0, _, _, _, _, _, _ => none
  | k + 1, x1, x2, x3, x11, x12, x13 => if x13 < x12 then (if 0 ≤ x13 then (if x13 < (x11.length : Int) then (if x2 = ((rd_T70 x11 x13).f0) then (if 0 ≤ x2 then (if x2 < (x1.length : Int) then ((some (x1.set (x2 : Int).toNat (wrap64 ((rd x1 x2) - x3)) : List Int)).bind fun y105 => (if 0 ≤ ((rd_T70 x11 x13).f1) then (if ((rd_T70 x11 x13).f1) < (x1.length : Int) then (impl_fire.l0 k (y105.set (((rd_T70 x11 x13).f1) : Int).toNat (wrap64 ((rd y105 ((rd_T70 x11 x13).f1)) + x3))) x2 x3 x11 x12 (wrap64 (x13 + 1))) else (none)) else (none))) else (none)) else (none)) else (if x2 = ((rd_T70 x11 x13).f1) then (if 0 ≤ x2 then (if x2 < (x1.length : Int) then ((some (x1.set (x2 : Int).toNat (wrap64 ((rd x1 x2) - x3)) : List Int)).bind fun y109 => (if 0 ≤ ((rd_T70 x11 x13).f0) then (if ((rd_T70 x11 x13).f0) < (x1.length : Int) then (impl_fire.l0 k (y109.set (((rd_T70 x11 x13).f0) : Int).toNat (wrap64 ((rd y109 ((rd_T70 x11 x13).f0)) + x3))) x2 x3 x11 x12 (wrap64 (x13 + 1))) else (none)) else (none))) else (none)) else (none)) else (impl_fire.l0 k x1 x2 x3 x11 x12 (wrap64 (x13 + 1))))) else (none)) else (none)) else (some x1)
def impl_fire.f (k : Nat) (a0_0 : Int) (l0_1 : List (S70)) (l1 : List Int) (a2 : Int) (a3 : Int) : Option (List Int) := impl_fire.l0 k l1 a2 a3 l0_1 (l0_1.length : Int) 0
theorem impl_fire.mono_l : ∀ k, (∀ y0 y1 y2 y3 y4 y5, LeO (impl_fire.l0 k y0 y1 y2 y3 y4 y5) (impl_fire.l0 (k + 1) y0 y1 y2 y3 y4 y5))
  | 0 => fun _ _ _ _ _ _ r h => by simp [impl_fire.l0] at h
  | k + 1 => by
    have ih0 := impl_fire.mono_l k
    · intro y0 y1 y2 y3 y4 y5
      unfold impl_fire.l0
      repeat' first
      | (with_reducible exact ih0 _ _ _ _ _ _)
      | (with_reducible exact LeO.refl _)
      | (with_reducible exact LeO.none _)
      | (with_reducible refine LeO.ite ?_ ?_)
      | (with_reducible refine LeO.bind ?_ (fun _ => ?_))
      | exact ih0 _ _ _ _ _ _
      | exact LeO.none _
      | refine LeO.ite ?_ ?_
      | refine LeO.bind ?_ (fun _ => ?_)
theorem impl_fire.mono : ∀ a0 a1 a2 a3 a4 k, LeO (impl_fire.f k a0 a1 a2 a3 a4) (impl_fire.f (k + 1) a0 a1 a2 a3 a4) := by
  intro a0 a1 a2 a3 a4 k; have ih0 := impl_fire.mono_l k; unfold impl_fire.f
  repeat' first
      | (with_reducible exact ih0 _ _ _ _ _ _)
      | (with_reducible exact LeO.refl _)
      | (with_reducible exact LeO.none _)
      | (with_reducible refine LeO.ite ?_ ?_)
      | (with_reducible refine LeO.bind ?_ (fun _ => ?_))
      | exact ih0 _ _ _ _ _ _
      | exact LeO.none _
      | refine LeO.ite ?_ ?_
      | refine LeO.bind ?_ (fun _ => ?_)
end Go.Proofs.Ytjecgolakaiddaa.P
end

section
namespace Go.Proofs.Ytjecgolakaiddaa.P
open Go.RowKit Go.Proofs.YtjecgolakaiddaaW.PrintWords Go.Proofs.YtjecgolakaiddaaW.PrintLast Go.Proofs.YtjecgolakaiddaaW.PrintMore
attribute [local go_sem] max2_int min2_int max_two min_two max_three min_three max_four min_four
set_option linter.unusedVariables false
set_option linter.unusedSimpArgs false
mutual
def spec_RotorsOk.j0 : Nat → List Int → Int → Bool → Int → List (S70) → Option (Bool)
  | 0, _, _, _, _, _ => none
  | k + 1, x1, x2, x33, x102000, x102001 => if x33 = true then (some false) else (spec_RotorsOk.l0 k x2 x1 (x1.length : Int) 0 x102000 x102001)
def spec_RotorsOk.l0 : Nat → Int → List Int → Int → Int → Int → List (S70) → Option (Bool)
  | 0, _, _, _, _, _, _ => none
  | k + 1, x2, x34, x35, x36, x102000, x102001 => if x36 < x35 then (if 0 ≤ x36 then (if x36 < (x34.length : Int) then (if x36 = x2 then (spec_RotorsOk.l0 k x2 x34 x35 (wrap64 (x36 + 1)) x102000 x102001) else ((spec_l01In.f (rd x34 x36) 0 (wrap64 ((x102001.length : Int) - 1))).bind fun t106 => (if t106 = true then (if 0 ≤ (rd x34 x36) then (if (rd x34 x36) < (x102001.length : Int) then (if ((rd_T70 x102001 (rd x34 x36)).f0) = x36 then (spec_RotorsOk.l0 k x2 x34 x35 (wrap64 (x36 + 1)) x102000 x102001) else (if ((rd_T70 x102001 (rd x34 x36)).f1) = x36 then (spec_RotorsOk.l0 k x2 x34 x35 (wrap64 (x36 + 1)) x102000 x102001) else (some false))) else (none)) else (none)) else (some false)))) else (none)) else (none)) else (some true)
end
def spec_RotorsOk.f (k : Nat) (a0_0 : Int) (l0_1 : List (S70)) (l1 : List Int) (a2 : Int) : Option (Bool) := (spec_GraphOk.f k a0_0 l0_1).bind fun t102 => (if t102 = true then ((spec_l01In.f a2 0 (wrap64 (a0_0 - 1))).bind fun t103 => (if t103 = true then (if (l1.length : Int) = a0_0 then (if 0 ≤ a2 then (if a2 < (l1.length : Int) then (spec_RotorsOk.j0 k l1 a2 ((rd l1 a2) != (-1)) a0_0 l0_1) else (none)) else (none)) else (spec_RotorsOk.j0 k l1 a2 true a0_0 l0_1)) else (spec_RotorsOk.j0 k l1 a2 true a0_0 l0_1))) else (spec_RotorsOk.j0 k l1 a2 true a0_0 l0_1))
theorem spec_RotorsOk.mono_l : ∀ k, (∀ y0 y1 y2 y3 y4, LeO (spec_RotorsOk.j0 k y0 y1 y2 y3 y4) (spec_RotorsOk.j0 (k + 1) y0 y1 y2 y3 y4)) ∧ (∀ y0 y1 y2 y3 y4 y5, LeO (spec_RotorsOk.l0 k y0 y1 y2 y3 y4 y5) (spec_RotorsOk.l0 (k + 1) y0 y1 y2 y3 y4 y5))
  | 0 => ⟨fun _ _ _ _ _ r h => by simp [spec_RotorsOk.j0] at h, fun _ _ _ _ _ _ r h => by simp [spec_RotorsOk.l0] at h⟩
  | k + 1 => by
    obtain ⟨ih0, ih1⟩ := spec_RotorsOk.mono_l k
    refine ⟨?_, ?_⟩
    · intro y0 y1 y2 y3 y4
      unfold spec_RotorsOk.j0
      repeat' first
      | (with_reducible exact ih0 _ _ _ _ _)
      | (with_reducible exact ih1 _ _ _ _ _ _)
      | (with_reducible exact spec_GraphOk.mono _ _ _)
      | (with_reducible exact LeO.refl _)
      | (with_reducible exact LeO.none _)
      | (with_reducible refine LeO.ite ?_ ?_)
      | (with_reducible refine LeO.bind ?_ (fun _ => ?_))
      | exact ih0 _ _ _ _ _
      | exact ih1 _ _ _ _ _ _
      | exact spec_GraphOk.mono _ _ _
      | exact LeO.none _
      | refine LeO.ite ?_ ?_
      | refine LeO.bind ?_ (fun _ => ?_)
    · intro y0 y1 y2 y3 y4 y5
      unfold spec_RotorsOk.l0
      repeat' first
      | (with_reducible exact ih0 _ _ _ _ _)
      | (with_reducible exact ih1 _ _ _ _ _ _)
      | (with_reducible exact spec_GraphOk.mono _ _ _)
      | (with_reducible exact LeO.refl _)
      | (with_reducible exact LeO.none _)
      | (with_reducible refine LeO.ite ?_ ?_)
      | (with_reducible refine LeO.bind ?_ (fun _ => ?_))
      | exact ih0 _ _ _ _ _
      | exact ih1 _ _ _ _ _ _
      | exact spec_GraphOk.mono _ _ _
      | exact LeO.none _
      | refine LeO.ite ?_ ?_
      | refine LeO.bind ?_ (fun _ => ?_)
theorem spec_RotorsOk.mono : ∀ a0 a1 a2 a3 k, LeO (spec_RotorsOk.f k a0 a1 a2 a3) (spec_RotorsOk.f (k + 1) a0 a1 a2 a3) := by
  intro a0 a1 a2 a3 k; obtain ⟨ih0, ih1⟩ := spec_RotorsOk.mono_l k; unfold spec_RotorsOk.f
  repeat' first
      | (with_reducible exact ih0 _ _ _ _ _)
      | (with_reducible exact ih1 _ _ _ _ _ _)
      | (with_reducible exact spec_GraphOk.mono _ _ _)
      | (with_reducible exact LeO.refl _)
      | (with_reducible exact LeO.none _)
      | (with_reducible refine LeO.ite ?_ ?_)
      | (with_reducible refine LeO.bind ?_ (fun _ => ?_))
      | exact ih0 _ _ _ _ _
      | exact ih1 _ _ _ _ _ _
      | exact spec_GraphOk.mono _ _ _
      | exact LeO.none _
      | refine LeO.ite ?_ ?_
      | refine LeO.bind ?_ (fun _ => ?_)
end Go.Proofs.Ytjecgolakaiddaa.P
end

section
namespace Go.Proofs.Ytjecgolakaiddaa.P
open Go.RowKit Go.Proofs.YtjecgolakaiddaaW.PrintWords Go.Proofs.YtjecgolakaiddaaW.PrintLast Go.Proofs.YtjecgolakaiddaaW.PrintMore
attribute [local go_sem] max2_int min2_int max_two min_two max_three min_three max_four min_four
set_option linter.unusedVariables false
set_option linter.unusedSimpArgs false
mutual
def impl_RotorsOk.j0 : Nat → List Int → Int → Bool → Int → List (S70) → Option (Bool)
  | 0, _, _, _, _, _ => none
  | k + 1, x1, x2, x26, x102000, x102001 => if x26 = true then (some false) else (impl_RotorsOk.l0 k x2 x1 (x1.length : Int) 0 x102000 x102001)
def impl_RotorsOk.l0 : Nat → Int → List Int → Int → Int → Int → List (S70) → Option (Bool)
  | 0, _, _, _, _, _, _ => none
  | k + 1, x2, x27, x28, x29, x102000, x102001 => if x29 < x28 then (if 0 ≤ x29 then (if x29 < (x27.length : Int) then (if x29 = x2 then (impl_RotorsOk.l0 k x2 x27 x28 (wrap64 (x29 + 1)) x102000 x102001) else ((impl_isAt.f x102000 x102001 (rd x27 x29) x29).bind fun t105 => (if t105 = true then (impl_RotorsOk.l0 k x2 x27 x28 (wrap64 (x29 + 1)) x102000 x102001) else (some false)))) else (none)) else (none)) else (some true)
end
def impl_RotorsOk.f (k : Nat) (a0_0 : Int) (l0_1 : List (S70)) (l1 : List Int) (a2 : Int) : Option (Bool) := (impl_isVertex.f a0_0 l0_1 a2).bind fun t102 => (if t102 = true then (if (l1.length : Int) = a0_0 then (if 0 ≤ a2 then (if a2 < (l1.length : Int) then (impl_RotorsOk.j0 k l1 a2 ((rd l1 a2) != (-1)) a0_0 l0_1) else (none)) else (none)) else (impl_RotorsOk.j0 k l1 a2 true a0_0 l0_1)) else (impl_RotorsOk.j0 k l1 a2 true a0_0 l0_1))
theorem impl_RotorsOk.mono_l : ∀ k, (∀ y0 y1 y2 y3 y4, LeO (impl_RotorsOk.j0 k y0 y1 y2 y3 y4) (impl_RotorsOk.j0 (k + 1) y0 y1 y2 y3 y4)) ∧ (∀ y0 y1 y2 y3 y4 y5, LeO (impl_RotorsOk.l0 k y0 y1 y2 y3 y4 y5) (impl_RotorsOk.l0 (k + 1) y0 y1 y2 y3 y4 y5))
  | 0 => ⟨fun _ _ _ _ _ r h => by simp [impl_RotorsOk.j0] at h, fun _ _ _ _ _ _ r h => by simp [impl_RotorsOk.l0] at h⟩
  | k + 1 => by
    obtain ⟨ih0, ih1⟩ := impl_RotorsOk.mono_l k
    refine ⟨?_, ?_⟩
    · intro y0 y1 y2 y3 y4
      unfold impl_RotorsOk.j0
      repeat' first
      | (with_reducible exact ih0 _ _ _ _ _)
      | (with_reducible exact ih1 _ _ _ _ _ _)
      | (with_reducible exact LeO.refl _)
      | (with_reducible exact LeO.none _)
      | (with_reducible refine LeO.ite ?_ ?_)
      | (with_reducible refine LeO.bind ?_ (fun _ => ?_))
      | exact ih0 _ _ _ _ _
      | exact ih1 _ _ _ _ _ _
      | exact LeO.none _
      | refine LeO.ite ?_ ?_
      | refine LeO.bind ?_ (fun _ => ?_)
    · intro y0 y1 y2 y3 y4 y5
      unfold impl_RotorsOk.l0
      repeat' first
      | (with_reducible exact ih0 _ _ _ _ _)
      | (with_reducible exact ih1 _ _ _ _ _ _)
      | (with_reducible exact LeO.refl _)
      | (with_reducible exact LeO.none _)
      | (with_reducible refine LeO.ite ?_ ?_)
      | (with_reducible refine LeO.bind ?_ (fun _ => ?_))
      | exact ih0 _ _ _ _ _
      | exact ih1 _ _ _ _ _ _
      | exact LeO.none _
      | refine LeO.ite ?_ ?_
      | refine LeO.bind ?_ (fun _ => ?_)
theorem impl_RotorsOk.mono : ∀ a0 a1 a2 a3 k, LeO (impl_RotorsOk.f k a0 a1 a2 a3) (impl_RotorsOk.f (k + 1) a0 a1 a2 a3) := by
  intro a0 a1 a2 a3 k; obtain ⟨ih0, ih1⟩ := impl_RotorsOk.mono_l k; unfold impl_RotorsOk.f
  repeat' first
      | (with_reducible exact ih0 _ _ _ _ _)
      | (with_reducible exact ih1 _ _ _ _ _ _)
      | (with_reducible exact LeO.refl _)
      | (with_reducible exact LeO.none _)
      | (with_reducible refine LeO.ite ?_ ?_)
      | (with_reducible refine LeO.bind ?_ (fun _ => ?_))
      | exact ih0 _ _ _ _ _
      | exact ih1 _ _ _ _ _ _
      | exact LeO.none _
      | refine LeO.ite ?_ ?_
      | refine LeO.bind ?_ (fun _ => ?_)
end Go.Proofs.Ytjecgolakaiddaa.P
end

section
namespace Go.Proofs.Ytjecgolakaiddaa.P
open Go.RowKit Go.Proofs.YtjecgolakaiddaaW.PrintWords Go.Proofs.YtjecgolakaiddaaW.PrintLast Go.Proofs.YtjecgolakaiddaaW.PrintMore
attribute [local go_sem] max2_int min2_int max_two min_two max_three min_three max_four min_four
set_option linter.unusedVariables false
set_option linter.unusedSimpArgs false
def spec_l15Next.l0 : Nat → Int → Int → Int → Int → Int → List (S70) → Option (Int)
  | 0, _, _, _, _, _, _ => none
  | k + 1, x1, x2, x7, x8, x102000, x102001 => if x8 < x7 then (if x7 = 0 then (none) else (if 0 ≤ (Int.tmod (wrap64 (x2 + x8)) x7) then (if (Int.tmod (wrap64 (x2 + x8)) x7) < (x102001.length : Int) then (if ((rd_T70 x102001 (Int.tmod (wrap64 (x2 + x8)) x7)).f0) = x1 then (some (Int.tmod (wrap64 (x2 + x8)) x7)) else (if ((rd_T70 x102001 (Int.tmod (wrap64 (x2 + x8)) x7)).f1) = x1 then (some (Int.tmod (wrap64 (x2 + x8)) x7)) else (spec_l15Next.l0 k x1 x2 x7 (wrap64 (x8 + 1)) x102000 x102001))) else (none)) else (none))) else (some x2)
def spec_l15Next.f (k : Nat) (a0_0 : Int) (l0_1 : List (S70)) (a1 : Int) (a2 : Int) : Option (Int) := spec_l15Next.l0 k a1 a2 (l0_1.length : Int) 1 a0_0 l0_1
theorem spec_l15Next.mono_l : ∀ k, (∀ y0 y1 y2 y3 y4 y5, LeO (spec_l15Next.l0 k y0 y1 y2 y3 y4 y5) (spec_l15Next.l0 (k + 1) y0 y1 y2 y3 y4 y5))
  | 0 => fun _ _ _ _ _ _ r h => by simp [spec_l15Next.l0] at h
  | k + 1 => by
    have ih0 := spec_l15Next.mono_l k
    · intro y0 y1 y2 y3 y4 y5
      unfold spec_l15Next.l0
      repeat' first
      | (with_reducible exact ih0 _ _ _ _ _ _)
      | (with_reducible exact LeO.refl _)
      | (with_reducible exact LeO.none _)
      | (with_reducible refine LeO.ite ?_ ?_)
      | (with_reducible refine LeO.bind ?_ (fun _ => ?_))
      | exact ih0 _ _ _ _ _ _
      | exact LeO.none _
      | refine LeO.ite ?_ ?_
      | refine LeO.bind ?_ (fun _ => ?_)
theorem spec_l15Next.mono : ∀ a0 a1 a2 a3 k, LeO (spec_l15Next.f k a0 a1 a2 a3) (spec_l15Next.f (k + 1) a0 a1 a2 a3) := by
  intro a0 a1 a2 a3 k; have ih0 := spec_l15Next.mono_l k; unfold spec_l15Next.f
  repeat' first
      | (with_reducible exact ih0 _ _ _ _ _ _)
      | (with_reducible exact LeO.refl _)
      | (with_reducible exact LeO.none _)
      | (with_reducible refine LeO.ite ?_ ?_)
      | (with_reducible refine LeO.bind ?_ (fun _ => ?_))
      | exact ih0 _ _ _ _ _ _
      | exact LeO.none _
      | refine LeO.ite ?_ ?_
      | refine LeO.bind ?_ (fun _ => ?_)
end Go.Proofs.Ytjecgolakaiddaa.P
end

section
namespace Go.Proofs.Ytjecgolakaiddaa.P
open Go.RowKit Go.Proofs.YtjecgolakaiddaaW.PrintWords Go.Proofs.YtjecgolakaiddaaW.PrintLast Go.Proofs.YtjecgolakaiddaaW.PrintMore
attribute [local go_sem] max2_int min2_int max_two min_two max_three min_three max_four min_four
set_option linter.unusedVariables false
set_option linter.unusedSimpArgs false
mutual
def impl_NextRotor.j0 : Nat → Int → Int → Bool → Int → List (S70) → Option (Int)
  | 0, _, _, _, _, _ => none
  | k + 1, x1, x2, x19, x102000, x102001 => if x19 = true then (some (-1)) else (if (x102001.length : Int) = 0 then (none) else (impl_NextRotor.l0 k x1 (x102001.length : Int) (Int.tmod (wrap64 (x2 + 1)) (x102001.length : Int)) x102000 x102001))
def impl_NextRotor.l0 : Nat → Int → Int → Int → Int → List (S70) → Option (Int)
  | 0, _, _, _, _, _ => none
  | k + 1, x1, x7, x8, x102000, x102001 => (impl_isAt.f x102000 x102001 x8 x1).bind fun t104 => (if t104 = true then (some x8) else (if x7 = 0 then (none) else (impl_NextRotor.l0 k x1 x7 (Int.tmod (wrap64 (x8 + 1)) x7) x102000 x102001)))
end
def impl_NextRotor.f (k : Nat) (a0_0 : Int) (l0_1 : List (S70)) (a1 : Int) (a2 : Int) : Option (Int) := (impl_isVertex.f a0_0 l0_1 a1).bind fun t102 => (if t102 = true then ((impl_isAt.f a0_0 l0_1 a2 a1).bind fun t103 => (impl_NextRotor.j0 k a1 a2 (!t103) a0_0 l0_1)) else (impl_NextRotor.j0 k a1 a2 true a0_0 l0_1))
theorem impl_NextRotor.mono_l : ∀ k, (∀ y0 y1 y2 y3 y4, LeO (impl_NextRotor.j0 k y0 y1 y2 y3 y4) (impl_NextRotor.j0 (k + 1) y0 y1 y2 y3 y4)) ∧ (∀ y0 y1 y2 y3 y4, LeO (impl_NextRotor.l0 k y0 y1 y2 y3 y4) (impl_NextRotor.l0 (k + 1) y0 y1 y2 y3 y4))
  | 0 => ⟨fun _ _ _ _ _ r h => by simp [impl_NextRotor.j0] at h, fun _ _ _ _ _ r h => by simp [impl_NextRotor.l0] at h⟩
  | k + 1 => by
    obtain ⟨ih0, ih1⟩ := impl_NextRotor.mono_l k
    refine ⟨?_, ?_⟩
    · intro y0 y1 y2 y3 y4
      unfold impl_NextRotor.j0
      repeat' first
      | (with_reducible exact ih0 _ _ _ _ _)
      | (with_reducible exact ih1 _ _ _ _ _)
      | (with_reducible exact LeO.refl _)
      | (with_reducible exact LeO.none _)
      | (with_reducible refine LeO.ite ?_ ?_)
      | (with_reducible refine LeO.bind ?_ (fun _ => ?_))
      | exact ih0 _ _ _ _ _
      | exact ih1 _ _ _ _ _
      | exact LeO.none _
      | refine LeO.ite ?_ ?_
      | refine LeO.bind ?_ (fun _ => ?_)
    · intro y0 y1 y2 y3 y4
      unfold impl_NextRotor.l0
      repeat' first
      | (with_reducible exact ih0 _ _ _ _ _)
      | (with_reducible exact ih1 _ _ _ _ _)
      | (with_reducible exact LeO.refl _)
      | (with_reducible exact LeO.none _)
      | (with_reducible refine LeO.ite ?_ ?_)
      | (with_reducible refine LeO.bind ?_ (fun _ => ?_))
      | exact ih0 _ _ _ _ _
      | exact ih1 _ _ _ _ _
      | exact LeO.none _
      | refine LeO.ite ?_ ?_
      | refine LeO.bind ?_ (fun _ => ?_)
theorem impl_NextRotor.mono : ∀ a0 a1 a2 a3 k, LeO (impl_NextRotor.f k a0 a1 a2 a3) (impl_NextRotor.f (k + 1) a0 a1 a2 a3) := by
  intro a0 a1 a2 a3 k; obtain ⟨ih0, ih1⟩ := impl_NextRotor.mono_l k; unfold impl_NextRotor.f
  repeat' first
      | (with_reducible exact ih0 _ _ _ _ _)
      | (with_reducible exact ih1 _ _ _ _ _)
      | (with_reducible exact LeO.refl _)
      | (with_reducible exact LeO.none _)
      | (with_reducible refine LeO.ite ?_ ?_)
      | (with_reducible refine LeO.bind ?_ (fun _ => ?_))
      | exact ih0 _ _ _ _ _
      | exact ih1 _ _ _ _ _
      | exact LeO.none _
      | refine LeO.ite ?_ ?_
      | refine LeO.bind ?_ (fun _ => ?_)
end Go.Proofs.Ytjecgolakaiddaa.P
end

section
namespace Go.Proofs.Ytjecgolakaiddaa.P
open Go.RowKit Go.Proofs.YtjecgolakaiddaaW.PrintWords Go.Proofs.YtjecgolakaiddaaW.PrintLast Go.Proofs.YtjecgolakaiddaaW.PrintMore
attribute [local go_sem] max2_int min2_int max_two min_two max_three min_three max_four min_four
set_option linter.unusedVariables false
set_option linter.unusedSimpArgs false
def spec_l15Other.f (a0_0 : Int) (a0_1 : Int) (a1 : Int) : Option (Int) := some (wrap64 ((wrap64 (a0_0 + a0_1)) - a1))
end Go.Proofs.Ytjecgolakaiddaa.P
end

section
namespace Go.Proofs.Ytjecgolakaiddaa.P
open Go.RowKit Go.Proofs.YtjecgolakaiddaaW.PrintWords Go.Proofs.YtjecgolakaiddaaW.PrintLast Go.Proofs.YtjecgolakaiddaaW.PrintMore
attribute [local go_sem] max2_int min2_int max_two min_two max_three min_three max_four min_four
set_option linter.unusedVariables false
set_option linter.unusedSimpArgs false
def spec_StepWalker.j0 : Nat → List Int → Int → Bool → Int → List (S70) → Option (List Int × Int × Bool)
  | 0, _, _, _, _, _ => none
  | k + 1, x1, x3, x29, x102000, x102001 => if x29 = true then (some (([] : List Int), 0, false)) else ((some (([] : List Int) : List Int)).bind fun y104 => (if y104.length + x1.length < 17592186044416 then ((some (y104 ++ x1 : List Int)).bind fun y107 => (if 0 ≤ x3 then (if x3 < (x1.length : Int) then ((spec_l15Next.f k x102000 x102001 x3 (rd x1 x3)).bind fun t111 => (if x3 < (y107.length : Int) then ((some (y107.set (x3 : Int).toNat t111 : List Int)).bind fun y112 => (if 0 ≤ (rd y112 x3) then (if (rd y112 x3) < (x102001.length : Int) then ((spec_l15Other.f ((rd_T70 x102001 (rd y112 x3)).f0) ((rd_T70 x102001 (rd y112 x3)).f1) x3).bind fun t115 => (some (y112, t115, true))) else (none)) else (none))) else (none))) else (none)) else (none))) else (none)))
def spec_StepWalker.f (k : Nat) (a0_0 : Int) (l0_1 : List (S70)) (l1 : List Int) (a2 : Int) (a3 : Int) : Option (List Int × Int × Bool) := (spec_RotorsOk.f k a0_0 l0_1 l1 a2).bind fun t102 => (if t102 = true then (if a3 = a2 then (spec_StepWalker.j0 k l1 a3 true a0_0 l0_1) else ((spec_l01In.f a3 0 (wrap64 (a0_0 - 1))).bind fun t103 => (spec_StepWalker.j0 k l1 a3 (!t103) a0_0 l0_1))) else (spec_StepWalker.j0 k l1 a3 true a0_0 l0_1))
theorem spec_StepWalker.mono_l : ∀ k, (∀ y0 y1 y2 y3 y4, LeO (spec_StepWalker.j0 k y0 y1 y2 y3 y4) (spec_StepWalker.j0 (k + 1) y0 y1 y2 y3 y4))
  | 0 => fun _ _ _ _ _ r h => by simp [spec_StepWalker.j0] at h
  | k + 1 => by
    have ih0 := spec_StepWalker.mono_l k
    · intro y0 y1 y2 y3 y4
      unfold spec_StepWalker.j0
      repeat' first
      | (with_reducible exact ih0 _ _ _ _ _)
      | (with_reducible exact spec_RotorsOk.mono _ _ _ _ _)
      | (with_reducible exact spec_l15Next.mono _ _ _ _ _)
      | (with_reducible exact LeO.refl _)
      | (with_reducible exact LeO.none _)
      | (with_reducible refine LeO.ite ?_ ?_)
      | (with_reducible refine LeO.bind ?_ (fun _ => ?_))
      | exact ih0 _ _ _ _ _
      | exact spec_RotorsOk.mono _ _ _ _ _
      | exact spec_l15Next.mono _ _ _ _ _
      | exact LeO.none _
      | refine LeO.ite ?_ ?_
      | refine LeO.bind ?_ (fun _ => ?_)
theorem spec_StepWalker.mono : ∀ a0 a1 a2 a3 a4 k, LeO (spec_StepWalker.f k a0 a1 a2 a3 a4) (spec_StepWalker.f (k + 1) a0 a1 a2 a3 a4) := by
  intro a0 a1 a2 a3 a4 k; have ih0 := spec_StepWalker.mono_l k; unfold spec_StepWalker.f
  repeat' first
      | (with_reducible exact ih0 _ _ _ _ _)
      | (with_reducible exact spec_RotorsOk.mono _ _ _ _ _)
      | (with_reducible exact spec_l15Next.mono _ _ _ _ _)
      | (with_reducible exact LeO.refl _)
      | (with_reducible exact LeO.none _)
      | (with_reducible refine LeO.ite ?_ ?_)
      | (with_reducible refine LeO.bind ?_ (fun _ => ?_))
      | exact ih0 _ _ _ _ _
      | exact spec_RotorsOk.mono _ _ _ _ _
      | exact spec_l15Next.mono _ _ _ _ _
      | exact LeO.none _
      | refine LeO.ite ?_ ?_
      | refine LeO.bind ?_ (fun _ => ?_)
end Go.Proofs.Ytjecgolakaiddaa.P
end

section
namespace Go.Proofs.Ytjecgolakaiddaa.P
open Go.RowKit Go.Proofs.YtjecgolakaiddaaW.PrintWords Go.Proofs.YtjecgolakaiddaaW.PrintLast Go.Proofs.YtjecgolakaiddaaW.PrintMore
attribute [local go_sem] max2_int min2_int max_two min_two max_three min_three max_four min_four
set_option linter.unusedVariables false
set_option linter.unusedSimpArgs false
def impl_across.f (a0_0 : Int) (l0_1 : List (S70)) (a1 : Int) (a2 : Int) : Option (Int) := if 0 ≤ a1 then (if a1 < (l0_1.length : Int) then (some (wrap64 ((wrap64 (((rd_T70 l0_1 a1).f0) + ((rd_T70 l0_1 a1).f1))) - a2))) else (none)) else (none)
end Go.Proofs.Ytjecgolakaiddaa.P
end

section
namespace Go.Proofs.Ytjecgolakaiddaa.P
open Go.RowKit Go.Proofs.YtjecgolakaiddaaW.PrintWords Go.Proofs.YtjecgolakaiddaaW.PrintLast Go.Proofs.YtjecgolakaiddaaW.PrintMore
attribute [local go_sem] max2_int min2_int max_two min_two max_three min_three max_four min_four
set_option linter.unusedVariables false
set_option linter.unusedSimpArgs false
def impl_copyInts.f (l0 : List Int) : Option (List Int) := if ([] : List Int).length + l0.length < 17592186044416 then (some (([] : List Int) ++ l0)) else (none)
end Go.Proofs.Ytjecgolakaiddaa.P
end

section
namespace Go.Proofs.Ytjecgolakaiddaa.P
open Go.RowKit Go.Proofs.YtjecgolakaiddaaW.PrintWords Go.Proofs.YtjecgolakaiddaaW.PrintLast Go.Proofs.YtjecgolakaiddaaW.PrintMore
attribute [local go_sem] max2_int min2_int max_two min_two max_three min_three max_four min_four
set_option linter.unusedVariables false
set_option linter.unusedSimpArgs false
def impl_StepWalker.j0 : Nat → List Int → Int → Bool → Int → List (S70) → Option (List Int × Int × Bool)
  | 0, _, _, _, _, _ => none
  | k + 1, x1, x3, x29, x102000, x102001 => if x29 = true then (some (([] : List Int), 0, false)) else ((impl_copyInts.f x1).bind fun t104 => (if 0 ≤ x3 then (if x3 < (x1.length : Int) then ((impl_NextRotor.f k x102000 x102001 x3 (rd x1 x3)).bind fun t108 => (if x3 < (t104.length : Int) then ((some (t104.set (x3 : Int).toNat t108 : List Int)).bind fun y109 => ((impl_across.f x102000 x102001 (rd y109 x3) x3).bind fun t111 => (some (y109, t111, true)))) else (none))) else (none)) else (none)))
def impl_StepWalker.f (k : Nat) (a0_0 : Int) (l0_1 : List (S70)) (l1 : List Int) (a2 : Int) (a3 : Int) : Option (List Int × Int × Bool) := (impl_RotorsOk.f k a0_0 l0_1 l1 a2).bind fun t102 => (if t102 = true then (if a3 = a2 then (impl_StepWalker.j0 k l1 a3 true a0_0 l0_1) else ((impl_within.f a3 0 (wrap64 (a0_0 - 1))).bind fun t103 => (impl_StepWalker.j0 k l1 a3 (!t103) a0_0 l0_1))) else (impl_StepWalker.j0 k l1 a3 true a0_0 l0_1))
theorem impl_StepWalker.mono_l : ∀ k, (∀ y0 y1 y2 y3 y4, LeO (impl_StepWalker.j0 k y0 y1 y2 y3 y4) (impl_StepWalker.j0 (k + 1) y0 y1 y2 y3 y4))
  | 0 => fun _ _ _ _ _ r h => by simp [impl_StepWalker.j0] at h
  | k + 1 => by
    have ih0 := impl_StepWalker.mono_l k
    · intro y0 y1 y2 y3 y4
      unfold impl_StepWalker.j0
      repeat' first
      | (with_reducible exact ih0 _ _ _ _ _)
      | (with_reducible exact impl_NextRotor.mono _ _ _ _ _)
      | (with_reducible exact impl_RotorsOk.mono _ _ _ _ _)
      | (with_reducible exact LeO.refl _)
      | (with_reducible exact LeO.none _)
      | (with_reducible refine LeO.ite ?_ ?_)
      | (with_reducible refine LeO.bind ?_ (fun _ => ?_))
      | exact ih0 _ _ _ _ _
      | exact impl_NextRotor.mono _ _ _ _ _
      | exact impl_RotorsOk.mono _ _ _ _ _
      | exact LeO.none _
      | refine LeO.ite ?_ ?_
      | refine LeO.bind ?_ (fun _ => ?_)
theorem impl_StepWalker.mono : ∀ a0 a1 a2 a3 a4 k, LeO (impl_StepWalker.f k a0 a1 a2 a3 a4) (impl_StepWalker.f (k + 1) a0 a1 a2 a3 a4) := by
  intro a0 a1 a2 a3 a4 k; have ih0 := impl_StepWalker.mono_l k; unfold impl_StepWalker.f
  repeat' first
      | (with_reducible exact ih0 _ _ _ _ _)
      | (with_reducible exact impl_NextRotor.mono _ _ _ _ _)
      | (with_reducible exact impl_RotorsOk.mono _ _ _ _ _)
      | (with_reducible exact LeO.refl _)
      | (with_reducible exact LeO.none _)
      | (with_reducible refine LeO.ite ?_ ?_)
      | (with_reducible refine LeO.bind ?_ (fun _ => ?_))
      | exact ih0 _ _ _ _ _
      | exact impl_NextRotor.mono _ _ _ _ _
      | exact impl_RotorsOk.mono _ _ _ _ _
      | exact LeO.none _
      | refine LeO.ite ?_ ?_
      | refine LeO.bind ?_ (fun _ => ?_)
end Go.Proofs.Ytjecgolakaiddaa.P
end

section
namespace Go.Proofs.Ytjecgolakaiddaa.P
open Go.RowKit Go.Proofs.YtjecgolakaiddaaW.PrintWords Go.Proofs.YtjecgolakaiddaaW.PrintLast Go.Proofs.YtjecgolakaiddaaW.PrintMore
attribute [local go_sem] max2_int min2_int max_two min_two max_three min_three max_four min_four
set_option linter.unusedVariables false
set_option linter.unusedSimpArgs false
def spec_l15Walk.l0 : Nat → Int → Int → List Int → Int → Int → List (S70) → Option (List Int × Int × Bool)
  | 0, _, _, _, _, _, _ => none
  | k + 1, x2, x3, x11, x12, x102000, x102001 => if x12 ≤ 2000 then (if x3 = x2 then (some (x11, x12, true)) else (if 0 ≤ x3 then (if x3 < (x11.length : Int) then ((spec_l15Next.f k x102000 x102001 x3 (rd x11 x3)).bind fun t109 => ((some (x11.set (x3 : Int).toNat t109 : List Int)).bind fun y110 => (if 0 ≤ (rd y110 x3) then (if (rd y110 x3) < (x102001.length : Int) then ((spec_l15Other.f ((rd_T70 x102001 (rd y110 x3)).f0) ((rd_T70 x102001 (rd y110 x3)).f1) x3).bind fun t113 => (spec_l15Walk.l0 k x2 t113 y110 (wrap64 (x12 + 1)) x102000 x102001)) else (none)) else (none)))) else (none)) else (none))) else (some (([] : List Int), 0, false))
def spec_l15Walk.f (k : Nat) (a0_0 : Int) (l0_1 : List (S70)) (l1 : List Int) (a2 : Int) (a3 : Int) : Option (List Int × Int × Bool) := (some (([] : List Int) : List Int)).bind fun y102 => (if y102.length + l1.length < 17592186044416 then (spec_l15Walk.l0 k a2 a3 (y102 ++ l1) 0 a0_0 l0_1) else (none))
theorem spec_l15Walk.mono_l : ∀ k, (∀ y0 y1 y2 y3 y4 y5, LeO (spec_l15Walk.l0 k y0 y1 y2 y3 y4 y5) (spec_l15Walk.l0 (k + 1) y0 y1 y2 y3 y4 y5))
  | 0 => fun _ _ _ _ _ _ r h => by simp [spec_l15Walk.l0] at h
  | k + 1 => by
    have ih0 := spec_l15Walk.mono_l k
    · intro y0 y1 y2 y3 y4 y5
      unfold spec_l15Walk.l0
      repeat' first
      | (with_reducible exact ih0 _ _ _ _ _ _)
      | (with_reducible exact spec_l15Next.mono _ _ _ _ _)
      | (with_reducible exact LeO.refl _)
      | (with_reducible exact LeO.none _)
      | (with_reducible refine LeO.ite ?_ ?_)
      | (with_reducible refine LeO.bind ?_ (fun _ => ?_))
      | exact ih0 _ _ _ _ _ _
      | exact spec_l15Next.mono _ _ _ _ _
      | exact LeO.none _
      | refine LeO.ite ?_ ?_
      | refine LeO.bind ?_ (fun _ => ?_)
theorem spec_l15Walk.mono : ∀ a0 a1 a2 a3 a4 k, LeO (spec_l15Walk.f k a0 a1 a2 a3 a4) (spec_l15Walk.f (k + 1) a0 a1 a2 a3 a4) := by
  intro a0 a1 a2 a3 a4 k; have ih0 := spec_l15Walk.mono_l k; unfold spec_l15Walk.f
  repeat' first
      | (with_reducible exact ih0 _ _ _ _ _ _)
      | (with_reducible exact spec_l15Next.mono _ _ _ _ _)
      | (with_reducible exact LeO.refl _)
      | (with_reducible exact LeO.none _)
      | (with_reducible refine LeO.ite ?_ ?_)
      | (with_reducible refine LeO.bind ?_ (fun _ => ?_))
      | exact ih0 _ _ _ _ _ _
      | exact spec_l15Next.mono _ _ _ _ _
      | exact LeO.none _
      | refine LeO.ite ?_ ?_
      | refine LeO.bind ?_ (fun _ => ?_)
end Go.Proofs.Ytjecgolakaiddaa.P
end

section
namespace Go.Proofs.Ytjecgolakaiddaa.P
open Go.RowKit Go.Proofs.YtjecgolakaiddaaW.PrintWords Go.Proofs.YtjecgolakaiddaaW.PrintLast Go.Proofs.YtjecgolakaiddaaW.PrintMore
attribute [local go_sem] max2_int min2_int max_two min_two max_three min_three max_four min_four
set_option linter.unusedVariables false
set_option linter.unusedSimpArgs false
def spec_WalkToSink.f (k : Nat) (a0_0 : Int) (l0_1 : List (S70)) (l1 : List Int) (a2 : Int) (a3 : Int) : Option (List Int × Int × Bool) := (spec_RotorsOk.f k a0_0 l0_1 l1 a2).bind fun t102 => (if t102 = true then ((spec_l01In.f a3 0 (wrap64 (a0_0 - 1))).bind fun t103 => (if t103 = true then ((spec_l15Walk.f k a0_0 l0_1 l1 a2 a3).bind fun bt104 => (some (bt104.1, bt104.2.1, bt104.2.2))) else (some (([] : List Int), 0, false)))) else (some (([] : List Int), 0, false)))
theorem spec_WalkToSink.mono : ∀ a0 a1 a2 a3 a4 k, LeO (spec_WalkToSink.f k a0 a1 a2 a3 a4) (spec_WalkToSink.f (k + 1) a0 a1 a2 a3 a4) := by
  intro a0 a1 a2 a3 a4 k; unfold spec_WalkToSink.f
  repeat' first
      | (with_reducible exact spec_RotorsOk.mono _ _ _ _ _)
      | (with_reducible exact spec_l15Walk.mono _ _ _ _ _ _)
      | (with_reducible exact LeO.refl _)
      | (with_reducible exact LeO.none _)
      | (with_reducible refine LeO.ite ?_ ?_)
      | (with_reducible refine LeO.bind ?_ (fun _ => ?_))
      | exact spec_RotorsOk.mono _ _ _ _ _
      | exact spec_l15Walk.mono _ _ _ _ _ _
      | exact LeO.none _
      | refine LeO.ite ?_ ?_
      | refine LeO.bind ?_ (fun _ => ?_)
end Go.Proofs.Ytjecgolakaiddaa.P
end

section
namespace Go.Proofs.Ytjecgolakaiddaa.P
open Go.RowKit Go.Proofs.YtjecgolakaiddaaW.PrintWords Go.Proofs.YtjecgolakaiddaaW.PrintLast Go.Proofs.YtjecgolakaiddaaW.PrintMore
attribute [local go_sem] max2_int min2_int max_two min_two max_three min_three max_four min_four
set_option linter.unusedVariables false
set_option linter.unusedSimpArgs false
mutual
def impl_WalkToSink.j0 : Nat → List Int → Int → Int → Bool → Int → List (S70) → Option (List Int × Int × Bool)
  | 0, _, _, _, _, _, _ => none
  | k + 1, x1, x2, x3, x25, x102000, x102001 => if x25 = true then (some (([] : List Int), 0, false)) else ((impl_copyInts.f x1).bind fun t104 => (impl_WalkToSink.l0 k x2 x3 t104 0 x102000 x102001))
def impl_WalkToSink.l0 : Nat → Int → Int → List Int → Int → Int → List (S70) → Option (List Int × Int × Bool)
  | 0, _, _, _, _, _, _ => none
  | k + 1, x2, x3, x11, x12, x102000, x102001 => if x3 = x2 then (some (x11, x12, true)) else (if x12 = 2000 then (some (([] : List Int), 0, false)) else (if 0 ≤ x3 then (if x3 < (x11.length : Int) then ((impl_NextRotor.f k x102000 x102001 x3 (rd x11 x3)).bind fun t108 => ((some (x11.set (x3 : Int).toNat t108 : List Int)).bind fun y109 => ((impl_across.f x102000 x102001 (rd y109 x3) x3).bind fun t111 => (impl_WalkToSink.l0 k x2 t111 y109 (wrap64 (x12 + 1)) x102000 x102001)))) else (none)) else (none)))
end
def impl_WalkToSink.f (k : Nat) (a0_0 : Int) (l0_1 : List (S70)) (l1 : List Int) (a2 : Int) (a3 : Int) : Option (List Int × Int × Bool) := (impl_RotorsOk.f k a0_0 l0_1 l1 a2).bind fun t102 => (if t102 = true then ((impl_within.f a3 0 (wrap64 (a0_0 - 1))).bind fun t103 => (impl_WalkToSink.j0 k l1 a2 a3 (!t103) a0_0 l0_1)) else (impl_WalkToSink.j0 k l1 a2 a3 true a0_0 l0_1))
theorem impl_WalkToSink.mono_l : ∀ k, (∀ y0 y1 y2 y3 y4 y5, LeO (impl_WalkToSink.j0 k y0 y1 y2 y3 y4 y5) (impl_WalkToSink.j0 (k + 1) y0 y1 y2 y3 y4 y5)) ∧ (∀ y0 y1 y2 y3 y4 y5, LeO (impl_WalkToSink.l0 k y0 y1 y2 y3 y4 y5) (impl_WalkToSink.l0 (k + 1) y0 y1 y2 y3 y4 y5))
  | 0 => ⟨fun _ _ _ _ _ _ r h => by simp [impl_WalkToSink.j0] at h, fun _ _ _ _ _ _ r h => by simp [impl_WalkToSink.l0] at h⟩
  | k + 1 => by
    obtain ⟨ih0, ih1⟩ := impl_WalkToSink.mono_l k
    refine ⟨?_, ?_⟩
    · intro y0 y1 y2 y3 y4 y5
      unfold impl_WalkToSink.j0
      repeat' first
      | (with_reducible exact ih0 _ _ _ _ _ _)
      | (with_reducible exact ih1 _ _ _ _ _ _)
      | (with_reducible exact impl_NextRotor.mono _ _ _ _ _)
      | (with_reducible exact impl_RotorsOk.mono _ _ _ _ _)
      | (with_reducible exact LeO.refl _)
      | (with_reducible exact LeO.none _)
      | (with_reducible refine LeO.ite ?_ ?_)
      | (with_reducible refine LeO.bind ?_ (fun _ => ?_))
      | exact ih0 _ _ _ _ _ _
      | exact ih1 _ _ _ _ _ _
      | exact impl_NextRotor.mono _ _ _ _ _
      | exact impl_RotorsOk.mono _ _ _ _ _
      | exact LeO.none _
      | refine LeO.ite ?_ ?_
      | refine LeO.bind ?_ (fun _ => ?_)
    · intro y0 y1 y2 y3 y4 y5
      unfold impl_WalkToSink.l0
      repeat' first
      | (with_reducible exact ih0 _ _ _ _ _ _)
      | (with_reducible exact ih1 _ _ _ _ _ _)
      | (with_reducible exact impl_NextRotor.mono _ _ _ _ _)
      | (with_reducible exact impl_RotorsOk.mono _ _ _ _ _)
      | (with_reducible exact LeO.refl _)
      | (with_reducible exact LeO.none _)
      | (with_reducible refine LeO.ite ?_ ?_)
      | (with_reducible refine LeO.bind ?_ (fun _ => ?_))
      | exact ih0 _ _ _ _ _ _
      | exact ih1 _ _ _ _ _ _
      | exact impl_NextRotor.mono _ _ _ _ _
      | exact impl_RotorsOk.mono _ _ _ _ _
      | exact LeO.none _
      | refine LeO.ite ?_ ?_
      | refine LeO.bind ?_ (fun _ => ?_)
theorem impl_WalkToSink.mono : ∀ a0 a1 a2 a3 a4 k, LeO (impl_WalkToSink.f k a0 a1 a2 a3 a4) (impl_WalkToSink.f (k + 1) a0 a1 a2 a3 a4) := by
  intro a0 a1 a2 a3 a4 k; obtain ⟨ih0, ih1⟩ := impl_WalkToSink.mono_l k; unfold impl_WalkToSink.f
  repeat' first
      | (with_reducible exact ih0 _ _ _ _ _ _)
      | (with_reducible exact ih1 _ _ _ _ _ _)
      | (with_reducible exact impl_NextRotor.mono _ _ _ _ _)
      | (with_reducible exact impl_RotorsOk.mono _ _ _ _ _)
      | (with_reducible exact LeO.refl _)
      | (with_reducible exact LeO.none _)
      | (with_reducible refine LeO.ite ?_ ?_)
      | (with_reducible refine LeO.bind ?_ (fun _ => ?_))
      | exact ih0 _ _ _ _ _ _
      | exact ih1 _ _ _ _ _ _
      | exact impl_NextRotor.mono _ _ _ _ _
      | exact impl_RotorsOk.mono _ _ _ _ _
      | exact LeO.none _
      | refine LeO.ite ?_ ?_
      | refine LeO.bind ?_ (fun _ => ?_)
end Go.Proofs.Ytjecgolakaiddaa.P
end

section
namespace Go.Proofs.Ytjecgolakaiddaa.P
open Go.RowKit Go.Proofs.YtjecgolakaiddaaW.PrintWords Go.Proofs.YtjecgolakaiddaaW.PrintLast Go.Proofs.YtjecgolakaiddaaW.PrintMore
attribute [local go_sem] max2_int min2_int max_two min_two max_three min_three max_four min_four
set_option linter.unusedVariables false
set_option linter.unusedSimpArgs false
mutual
def spec_IsTreeState.l0 : Nat → List Int → Int → Int → Int → List (S70) → Option (Bool)
  | 0, _, _, _, _, _ => none
  | k + 1, x1, x2, x7, x102000, x102001 => if x7 < x102000 then (spec_IsTreeState.l1 k x1 x2 x7 x7 0 x102000 x102001) else (some true)
def spec_IsTreeState.l1 : Nat → List Int → Int → Int → Int → Int → Int → List (S70) → Option (Bool)
  | 0, _, _, _, _, _, _, _ => none
  | k + 1, x1, x2, x7, x8, x9, x102000, x102001 => if x9 < x102000 then (if x8 = x2 then (spec_IsTreeState.l0 k x1 x2 (wrap64 (x7 + 1)) x102000 x102001) else (if 0 ≤ x8 then (if x8 < (x1.length : Int) then (if 0 ≤ (rd x1 x8) then (if (rd x1 x8) < (x102001.length : Int) then ((spec_l15Other.f ((rd_T70 x102001 (rd x1 x8)).f0) ((rd_T70 x102001 (rd x1 x8)).f1) x8).bind fun t105 => (spec_IsTreeState.l1 k x1 x2 x7 t105 (wrap64 (x9 + 1)) x102000 x102001)) else (none)) else (none)) else (none)) else (none))) else (if x8 = x2 then (spec_IsTreeState.l0 k x1 x2 (wrap64 (x7 + 1)) x102000 x102001) else (some false))
end
def spec_IsTreeState.f (k : Nat) (a0_0 : Int) (l0_1 : List (S70)) (l1 : List Int) (a2 : Int) : Option (Bool) := (spec_RotorsOk.f k a0_0 l0_1 l1 a2).bind fun t102 => (if t102 = true then (spec_IsTreeState.l0 k l1 a2 0 a0_0 l0_1) else (some false))
theorem spec_IsTreeState.mono_l : ∀ k, (∀ y0 y1 y2 y3 y4, LeO (spec_IsTreeState.l0 k y0 y1 y2 y3 y4) (spec_IsTreeState.l0 (k + 1) y0 y1 y2 y3 y4)) ∧ (∀ y0 y1 y2 y3 y4 y5 y6, LeO (spec_IsTreeState.l1 k y0 y1 y2 y3 y4 y5 y6) (spec_IsTreeState.l1 (k + 1) y0 y1 y2 y3 y4 y5 y6))
  | 0 => ⟨fun _ _ _ _ _ r h => by simp [spec_IsTreeState.l0] at h, fun _ _ _ _ _ _ _ r h => by simp [spec_IsTreeState.l1] at h⟩
  | k + 1 => by
    obtain ⟨ih0, ih1⟩ := spec_IsTreeState.mono_l k
    refine ⟨?_, ?_⟩
    · intro y0 y1 y2 y3 y4
      unfold spec_IsTreeState.l0
      repeat' first
      | (with_reducible exact ih0 _ _ _ _ _)
      | (with_reducible exact ih1 _ _ _ _ _ _ _)
      | (with_reducible exact spec_RotorsOk.mono _ _ _ _ _)
      | (with_reducible exact LeO.refl _)
      | (with_reducible exact LeO.none _)
      | (with_reducible refine LeO.ite ?_ ?_)
      | (with_reducible refine LeO.bind ?_ (fun _ => ?_))
      | exact ih0 _ _ _ _ _
      | exact ih1 _ _ _ _ _ _ _
      | exact spec_RotorsOk.mono _ _ _ _ _
      | exact LeO.none _
      | refine LeO.ite ?_ ?_
      | refine LeO.bind ?_ (fun _ => ?_)
    · intro y0 y1 y2 y3 y4 y5 y6
      unfold spec_IsTreeState.l1
      repeat' first
      | (with_reducible exact ih0 _ _ _ _ _)
      | (with_reducible exact ih1 _ _ _ _ _ _ _)
      | (with_reducible exact spec_RotorsOk.mono _ _ _ _ _)
      | (with_reducible exact LeO.refl _)
      | (with_reducible exact LeO.none _)
      | (with_reducible refine LeO.ite ?_ ?_)
      | (with_reducible refine LeO.bind ?_ (fun _ => ?_))
      | exact ih0 _ _ _ _ _
      | exact ih1 _ _ _ _ _ _ _
      | exact spec_RotorsOk.mono _ _ _ _ _
      | exact LeO.none _
      | refine LeO.ite ?_ ?_
      | refine LeO.bind ?_ (fun _ => ?_)
theorem spec_IsTreeState.mono : ∀ a0 a1 a2 a3 k, LeO (spec_IsTreeState.f k a0 a1 a2 a3) (spec_IsTreeState.f (k + 1) a0 a1 a2 a3) := by
  intro a0 a1 a2 a3 k; obtain ⟨ih0, ih1⟩ := spec_IsTreeState.mono_l k; unfold spec_IsTreeState.f
  repeat' first
      | (with_reducible exact ih0 _ _ _ _ _)
      | (with_reducible exact ih1 _ _ _ _ _ _ _)
      | (with_reducible exact spec_RotorsOk.mono _ _ _ _ _)
      | (with_reducible exact LeO.refl _)
      | (with_reducible exact LeO.none _)
      | (with_reducible refine LeO.ite ?_ ?_)
      | (with_reducible refine LeO.bind ?_ (fun _ => ?_))
      | exact ih0 _ _ _ _ _
      | exact ih1 _ _ _ _ _ _ _
      | exact spec_RotorsOk.mono _ _ _ _ _
      | exact LeO.none _
      | refine LeO.ite ?_ ?_
      | refine LeO.bind ?_ (fun _ => ?_)
end Go.Proofs.Ytjecgolakaiddaa.P
end

section
namespace Go.Proofs.Ytjecgolakaiddaa.P
open Go.RowKit Go.Proofs.YtjecgolakaiddaaW.PrintWords Go.Proofs.YtjecgolakaiddaaW.PrintLast Go.Proofs.YtjecgolakaiddaaW.PrintMore
attribute [local go_sem] max2_int min2_int max_two min_two max_three min_three max_four min_four
set_option linter.unusedVariables false
set_option linter.unusedSimpArgs false
mutual
def impl_IsTreeState.l0 : Nat → List Int → Int → Int → Int → Int → List (S70) → Option (Bool)
  | 0, _, _, _, _, _, _ => none
  | k + 1, x1, x2, x16, x17, x102000, x102001 => if x17 < x16 then (impl_IsTreeState.l1 k x1 x2 x17 0 x16 x17 x102000 x102001) else (some true)
def impl_IsTreeState.l1 : Nat → List Int → Int → Int → Int → Int → Int → Int → List (S70) → Option (Bool)
  | 0, _, _, _, _, _, _, _, _ => none
  | k + 1, x1, x2, x8, x9, x16, x17, x102000, x102001 => if x9 < x102000 then (if x8 = x2 then (impl_IsTreeState.l0 k x1 x2 x16 (wrap64 (x17 + 1)) x102000 x102001) else (if 0 ≤ x8 then (if x8 < (x1.length : Int) then ((impl_across.f x102000 x102001 (rd x1 x8) x8).bind fun t104 => (impl_IsTreeState.l1 k x1 x2 t104 (wrap64 (x9 + 1)) x16 x17 x102000 x102001)) else (none)) else (none))) else (if x8 = x2 then (impl_IsTreeState.l0 k x1 x2 x16 (wrap64 (x17 + 1)) x102000 x102001) else (some false))
end
def impl_IsTreeState.f (k : Nat) (a0_0 : Int) (l0_1 : List (S70)) (l1 : List Int) (a2 : Int) : Option (Bool) := (impl_RotorsOk.f k a0_0 l0_1 l1 a2).bind fun t102 => (if t102 = true then (impl_IsTreeState.l0 k l1 a2 (l1.length : Int) 0 a0_0 l0_1) else (some false))
theorem impl_IsTreeState.mono_l : ∀ k, (∀ y0 y1 y2 y3 y4 y5, LeO (impl_IsTreeState.l0 k y0 y1 y2 y3 y4 y5) (impl_IsTreeState.l0 (k + 1) y0 y1 y2 y3 y4 y5)) ∧ (∀ y0 y1 y2 y3 y4 y5 y6 y7, LeO (impl_IsTreeState.l1 k y0 y1 y2 y3 y4 y5 y6 y7) (impl_IsTreeState.l1 (k + 1) y0 y1 y2 y3 y4 y5 y6 y7))
  | 0 => ⟨fun _ _ _ _ _ _ r h => by simp [impl_IsTreeState.l0] at h, fun _ _ _ _ _ _ _ _ r h => by simp [impl_IsTreeState.l1] at h⟩
  | k + 1 => by
    obtain ⟨ih0, ih1⟩ := impl_IsTreeState.mono_l k
    refine ⟨?_, ?_⟩
    · intro y0 y1 y2 y3 y4 y5
      unfold impl_IsTreeState.l0
      repeat' first
      | (with_reducible exact ih0 _ _ _ _ _ _)
      | (with_reducible exact ih1 _ _ _ _ _ _ _ _)
      | (with_reducible exact impl_RotorsOk.mono _ _ _ _ _)
      | (with_reducible exact LeO.refl _)
      | (with_reducible exact LeO.none _)
      | (with_reducible refine LeO.ite ?_ ?_)
      | (with_reducible refine LeO.bind ?_ (fun _ => ?_))
      | exact ih0 _ _ _ _ _ _
      | exact ih1 _ _ _ _ _ _ _ _
      | exact impl_RotorsOk.mono _ _ _ _ _
      | exact LeO.none _
      | refine LeO.ite ?_ ?_
      | refine LeO.bind ?_ (fun _ => ?_)
    · intro y0 y1 y2 y3 y4 y5 y6 y7
      unfold impl_IsTreeState.l1
      repeat' first
      | (with_reducible exact ih0 _ _ _ _ _ _)
      | (with_reducible exact ih1 _ _ _ _ _ _ _ _)
      | (with_reducible exact impl_RotorsOk.mono _ _ _ _ _)
      | (with_reducible exact LeO.refl _)
      | (with_reducible exact LeO.none _)
      | (with_reducible refine LeO.ite ?_ ?_)
      | (with_reducible refine LeO.bind ?_ (fun _ => ?_))
      | exact ih0 _ _ _ _ _ _
      | exact ih1 _ _ _ _ _ _ _ _
      | exact impl_RotorsOk.mono _ _ _ _ _
      | exact LeO.none _
      | refine LeO.ite ?_ ?_
      | refine LeO.bind ?_ (fun _ => ?_)
theorem impl_IsTreeState.mono : ∀ a0 a1 a2 a3 k, LeO (impl_IsTreeState.f k a0 a1 a2 a3) (impl_IsTreeState.f (k + 1) a0 a1 a2 a3) := by
  intro a0 a1 a2 a3 k; obtain ⟨ih0, ih1⟩ := impl_IsTreeState.mono_l k; unfold impl_IsTreeState.f
  repeat' first
      | (with_reducible exact ih0 _ _ _ _ _ _)
      | (with_reducible exact ih1 _ _ _ _ _ _ _ _)
      | (with_reducible exact impl_RotorsOk.mono _ _ _ _ _)
      | (with_reducible exact LeO.refl _)
      | (with_reducible exact LeO.none _)
      | (with_reducible refine LeO.ite ?_ ?_)
      | (with_reducible refine LeO.bind ?_ (fun _ => ?_))
      | exact ih0 _ _ _ _ _ _
      | exact ih1 _ _ _ _ _ _ _ _
      | exact impl_RotorsOk.mono _ _ _ _ _
      | exact LeO.none _
      | refine LeO.ite ?_ ?_
      | refine LeO.bind ?_ (fun _ => ?_)
end Go.Proofs.Ytjecgolakaiddaa.P
end

section
namespace Go.Proofs.Ytjecgolakaiddaa.P
open Go.RowKit Go.Proofs.YtjecgolakaiddaaW.PrintWords Go.Proofs.YtjecgolakaiddaaW.PrintLast Go.Proofs.YtjecgolakaiddaaW.PrintMore
attribute [local go_sem] max2_int min2_int max_two min_two max_three min_three max_four min_four
set_option linter.unusedVariables false
set_option linter.unusedSimpArgs false
def spec_l10Topple.f (k : Nat) (a0_0 : Int) (l0_1 : List (S70)) (l1 : List Int) (a2 : Int) (a3 : Int) : Option (List Int) := if 0 ≤ a0_0 then (if (a0_0 : Int).toNat ≤ 35184372088832 then ((some (List.replicate (a0_0 : Int).toNat 0 : List Int)).bind fun y102 => (if 0 ≤ a3 then (if a3 < (y102.length : Int) then ((spec_l04Fire.f k a0_0 l0_1 l1 (y102.set (a3 : Int).toNat 1)).bind fun t106 => (if 0 ≤ a2 then (if a2 < (t106.length : Int) then (some (t106.set (a2 : Int).toNat 0)) else (none)) else (none))) else (none)) else (none))) else (none)) else (none)
theorem spec_l10Topple.mono : ∀ a0 a1 a2 a3 a4 k, LeO (spec_l10Topple.f k a0 a1 a2 a3 a4) (spec_l10Topple.f (k + 1) a0 a1 a2 a3 a4) := by
  intro a0 a1 a2 a3 a4 k; unfold spec_l10Topple.f
  repeat' first
      | (with_reducible exact spec_l04Fire.mono _ _ _ _ _)
      | (with_reducible exact LeO.refl _)
      | (with_reducible exact LeO.none _)
      | (with_reducible refine LeO.ite ?_ ?_)
      | (with_reducible refine LeO.bind ?_ (fun _ => ?_))
      | exact spec_l04Fire.mono _ _ _ _ _
      | exact LeO.none _
      | refine LeO.ite ?_ ?_
      | refine LeO.bind ?_ (fun _ => ?_)
end Go.Proofs.Ytjecgolakaiddaa.P
end

section
namespace Go.Proofs.Ytjecgolakaiddaa.P
open Go.RowKit Go.Proofs.YtjecgolakaiddaaW.PrintWords Go.Proofs.YtjecgolakaiddaaW.PrintLast Go.Proofs.YtjecgolakaiddaaW.PrintMore
attribute [local go_sem] max2_int min2_int max_two min_two max_three min_three max_four min_four
set_option linter.unusedVariables false
set_option linter.unusedSimpArgs false
def spec_Topple.f (k : Nat) (a0_0 : Int) (l0_1 : List (S70)) (l1 : List Int) (a2 : Int) (a3 : Int) : Option (List Int × Bool) := (spec_PileOk.f k a0_0 l0_1 l1 a2).bind fun t102 => (if t102 = true then (if a3 = a2 then (some (([] : List Int), false)) else ((spec_l01In.f a3 0 (wrap64 (a0_0 - 1))).bind fun t103 => (if t103 = true then (if 0 ≤ a3 then (if a3 < (l1.length : Int) then ((spec_Valence.f k a0_0 l0_1 a3).bind fun t105 => (if (rd l1 a3) < t105 then (some (([] : List Int), false)) else ((spec_l10Topple.f k a0_0 l0_1 l1 a2 a3).bind fun t106 => (some (t106, true))))) else (none)) else (none)) else (some (([] : List Int), false))))) else (some (([] : List Int), false)))
theorem spec_Topple.mono : ∀ a0 a1 a2 a3 a4 k, LeO (spec_Topple.f k a0 a1 a2 a3 a4) (spec_Topple.f (k + 1) a0 a1 a2 a3 a4) := by
  intro a0 a1 a2 a3 a4 k; unfold spec_Topple.f
  repeat' first
      | (with_reducible exact spec_PileOk.mono _ _ _ _ _)
      | (with_reducible exact spec_Valence.mono _ _ _ _)
      | (with_reducible exact spec_l10Topple.mono _ _ _ _ _ _)
      | (with_reducible exact LeO.refl _)
      | (with_reducible exact LeO.none _)
      | (with_reducible refine LeO.ite ?_ ?_)
      | (with_reducible refine LeO.bind ?_ (fun _ => ?_))
      | exact spec_PileOk.mono _ _ _ _ _
      | exact spec_Valence.mono _ _ _ _
      | exact spec_l10Topple.mono _ _ _ _ _ _
      | exact LeO.none _
      | refine LeO.ite ?_ ?_
      | refine LeO.bind ?_ (fun _ => ?_)
end Go.Proofs.Ytjecgolakaiddaa.P
end

section
namespace Go.Proofs.Ytjecgolakaiddaa.P
open Go.RowKit Go.Proofs.YtjecgolakaiddaaW.PrintWords Go.Proofs.YtjecgolakaiddaaW.PrintLast Go.Proofs.YtjecgolakaiddaaW.PrintMore
attribute [local go_sem] max2_int min2_int max_two min_two max_three min_three max_four min_four
set_option linter.unusedVariables false
set_option linter.unusedSimpArgs false
def impl_Topple.j0 : Nat → List Int → Int → Int → Bool → Int → List (S70) → Option (List Int × Bool)
  | 0, _, _, _, _, _, _ => none
  | k + 1, x1, x2, x3, x38, x102000, x102001 => if x38 = true then (some (([] : List Int), false)) else ((impl_copyInts.f x1).bind fun t106 => ((impl_fire.f k x102000 x102001 t106 x3 1).bind fun t109 => (if 0 ≤ x2 then (if x2 < (t106.length : Int) then (some ((t109.set (x2 : Int).toNat 0), true)) else (none)) else (none))))
def impl_Topple.f (k : Nat) (a0_0 : Int) (l0_1 : List (S70)) (l1 : List Int) (a2 : Int) (a3 : Int) : Option (List Int × Bool) := (impl_PileOk.f k a0_0 l0_1 l1 a2).bind fun t102 => (if t102 = true then (if a3 = a2 then (impl_Topple.j0 k l1 a2 a3 true a0_0 l0_1) else ((impl_within.f a3 0 (wrap64 (a0_0 - 1))).bind fun t103 => (if t103 = true then (if 0 ≤ a3 then (if a3 < (l1.length : Int) then ((impl_Valence.f k a0_0 l0_1 a3).bind fun t105 => (impl_Topple.j0 k l1 a2 a3 (decide ((rd l1 a3) < t105)) a0_0 l0_1)) else (none)) else (none)) else (impl_Topple.j0 k l1 a2 a3 true a0_0 l0_1)))) else (impl_Topple.j0 k l1 a2 a3 true a0_0 l0_1))
theorem impl_Topple.mono_l : ∀ k, (∀ y0 y1 y2 y3 y4 y5, LeO (impl_Topple.j0 k y0 y1 y2 y3 y4 y5) (impl_Topple.j0 (k + 1) y0 y1 y2 y3 y4 y5))
  | 0 => fun _ _ _ _ _ _ r h => by simp [impl_Topple.j0] at h
  | k + 1 => by
    have ih0 := impl_Topple.mono_l k
    · intro y0 y1 y2 y3 y4 y5
      unfold impl_Topple.j0
      repeat' first
      | (with_reducible exact ih0 _ _ _ _ _ _)
      | (with_reducible exact impl_PileOk.mono _ _ _ _ _)
      | (with_reducible exact impl_Valence.mono _ _ _ _)
      | (with_reducible exact impl_fire.mono _ _ _ _ _ _)
      | (with_reducible exact LeO.refl _)
      | (with_reducible exact LeO.none _)
      | (with_reducible refine LeO.ite ?_ ?_)
      | (with_reducible refine LeO.bind ?_ (fun _ => ?_))
      | exact ih0 _ _ _ _ _ _
      | exact impl_PileOk.mono _ _ _ _ _
      | exact impl_Valence.mono _ _ _ _
      | exact impl_fire.mono _ _ _ _ _ _
      | exact LeO.none _
      | refine LeO.ite ?_ ?_
      | refine LeO.bind ?_ (fun _ => ?_)
theorem impl_Topple.mono : ∀ a0 a1 a2 a3 a4 k, LeO (impl_Topple.f k a0 a1 a2 a3 a4) (impl_Topple.f (k + 1) a0 a1 a2 a3 a4) := by
  intro a0 a1 a2 a3 a4 k; have ih0 := impl_Topple.mono_l k; unfold impl_Topple.f
  repeat' first
      | (with_reducible exact ih0 _ _ _ _ _ _)
      | (with_reducible exact impl_PileOk.mono _ _ _ _ _)
      | (with_reducible exact impl_Valence.mono _ _ _ _)
      | (with_reducible exact impl_fire.mono _ _ _ _ _ _)
      | (with_reducible exact LeO.refl _)
      | (with_reducible exact LeO.none _)
      | (with_reducible refine LeO.ite ?_ ?_)
      | (with_reducible refine LeO.bind ?_ (fun _ => ?_))
      | exact ih0 _ _ _ _ _ _
      | exact impl_PileOk.mono _ _ _ _ _
      | exact impl_Valence.mono _ _ _ _
      | exact impl_fire.mono _ _ _ _ _ _
      | exact LeO.none _
      | refine LeO.ite ?_ ?_
      | refine LeO.bind ?_ (fun _ => ?_)
end Go.Proofs.Ytjecgolakaiddaa.P
end

section
namespace Go.Proofs.Ytjecgolakaiddaa.P
open Go.RowKit Go.Proofs.YtjecgolakaiddaaW.PrintWords Go.Proofs.YtjecgolakaiddaaW.PrintLast Go.Proofs.YtjecgolakaiddaaW.PrintMore
attribute [local go_sem] max2_int min2_int max_two min_two max_three min_three max_four min_four
set_option linter.unusedVariables false
set_option linter.unusedSimpArgs false
def spec_l10Settle.l0 : Nat → Int → List Int → List Int → Int → List (S70) → Option (List Int × List Int)
  | 0, _, _, _, _, _ => none
  | k + 1, x2, x8, x9, x102000, x102001 => (spec_l10Unstable.f k x102000 x102001 x8 x2).bind fun t111 => (if t111 < 0 then (some (x8, x9)) else ((spec_l10Topple.f k x102000 x102001 x8 x2 t111).bind fun t112 => (if 0 ≤ t111 then (if t111 < (x9.length : Int) then (spec_l10Settle.l0 k x2 t112 (x9.set (t111 : Int).toNat (wrap64 ((rd x9 t111) + 1))) x102000 x102001) else (none)) else (none))))
def spec_l10Settle.f (k : Nat) (a0_0 : Int) (l0_1 : List (S70)) (l1 : List Int) (a2 : Int) : Option (List Int × List Int) := (some (([] : List Int) : List Int)).bind fun y102 => (if y102.length + l1.length < 17592186044416 then (if 0 ≤ a0_0 then (if (a0_0 : Int).toNat ≤ 35184372088832 then (spec_l10Settle.l0 k a2 (y102 ++ l1) (List.replicate (a0_0 : Int).toNat 0) a0_0 l0_1) else (none)) else (none)) else (none))
theorem spec_l10Settle.mono_l : ∀ k, (∀ y0 y1 y2 y3 y4, LeO (spec_l10Settle.l0 k y0 y1 y2 y3 y4) (spec_l10Settle.l0 (k + 1) y0 y1 y2 y3 y4))
  | 0 => fun _ _ _ _ _ r h => by simp [spec_l10Settle.l0] at h
  | k + 1 => by
    have ih0 := spec_l10Settle.mono_l k
    · intro y0 y1 y2 y3 y4
      unfold spec_l10Settle.l0
      repeat' first
      | (with_reducible exact ih0 _ _ _ _ _)
      | (with_reducible exact spec_l10Topple.mono _ _ _ _ _ _)
      | (with_reducible exact spec_l10Unstable.mono _ _ _ _ _)
      | (with_reducible exact LeO.refl _)
      | (with_reducible exact LeO.none _)
      | (with_reducible refine LeO.ite ?_ ?_)
      | (with_reducible refine LeO.bind ?_ (fun _ => ?_))
      | exact ih0 _ _ _ _ _
      | exact spec_l10Topple.mono _ _ _ _ _ _
      | exact spec_l10Unstable.mono _ _ _ _ _
      | exact LeO.none _
      | refine LeO.ite ?_ ?_
      | refine LeO.bind ?_ (fun _ => ?_)
theorem spec_l10Settle.mono : ∀ a0 a1 a2 a3 k, LeO (spec_l10Settle.f k a0 a1 a2 a3) (spec_l10Settle.f (k + 1) a0 a1 a2 a3) := by
  intro a0 a1 a2 a3 k; have ih0 := spec_l10Settle.mono_l k; unfold spec_l10Settle.f
  repeat' first
      | (with_reducible exact ih0 _ _ _ _ _)
      | (with_reducible exact spec_l10Topple.mono _ _ _ _ _ _)
      | (with_reducible exact spec_l10Unstable.mono _ _ _ _ _)
      | (with_reducible exact LeO.refl _)
      | (with_reducible exact LeO.none _)
      | (with_reducible refine LeO.ite ?_ ?_)
      | (with_reducible refine LeO.bind ?_ (fun _ => ?_))
      | exact ih0 _ _ _ _ _
      | exact spec_l10Topple.mono _ _ _ _ _ _
      | exact spec_l10Unstable.mono _ _ _ _ _
      | exact LeO.none _
      | refine LeO.ite ?_ ?_
      | refine LeO.bind ?_ (fun _ => ?_)
end Go.Proofs.Ytjecgolakaiddaa.P
end

section
namespace Go.Proofs.Ytjecgolakaiddaa.P
open Go.RowKit Go.Proofs.YtjecgolakaiddaaW.PrintWords Go.Proofs.YtjecgolakaiddaaW.PrintLast Go.Proofs.YtjecgolakaiddaaW.PrintMore
attribute [local go_sem] max2_int min2_int max_two min_two max_three min_three max_four min_four
set_option linter.unusedVariables false
set_option linter.unusedSimpArgs false
def impl_stabilize.l0 : Nat → Int → List Int → List Int → Int → Int → List (S70) → Option (List Int × List Int)
  | 0, _, _, _, _, _, _ => none
  | k + 1, x2, x8, x9, x10, x102000, x102001 => if x10 ≥ 0 then (if 0 ≤ x10 then (if x10 < (x8.length : Int) then ((impl_Valence.f k x102000 x102001 x10).bind fun t110 => (if t110 = 0 then (none) else ((impl_fire.f k x102000 x102001 x8 x10 (wrap64 (Int.tdiv (rd x8 x10) t110))).bind fun t111 => (if x10 < (x9.length : Int) then ((impl_unstable.f k x102000 x102001 t111 x2).bind fun t114 => (impl_stabilize.l0 k x2 t111 (x9.set (x10 : Int).toNat (wrap64 ((rd x9 x10) + (wrap64 (Int.tdiv (rd x8 x10) t110))))) t114 x102000 x102001)) else (none))))) else (none)) else (none)) else (if 0 ≤ x2 then (if x2 < (x8.length : Int) then (some ((x8.set (x2 : Int).toNat 0), x9)) else (none)) else (none))
def impl_stabilize.f (k : Nat) (a0_0 : Int) (l0_1 : List (S70)) (l1 : List Int) (a2 : Int) : Option (List Int × List Int) := (impl_copyInts.f l1).bind fun t102 => (if 0 ≤ a0_0 then (if (a0_0 : Int).toNat ≤ 35184372088832 then ((impl_unstable.f k a0_0 l0_1 t102 a2).bind fun t108 => (impl_stabilize.l0 k a2 t102 (List.replicate (a0_0 : Int).toNat 0) t108 a0_0 l0_1)) else (none)) else (none))
theorem impl_stabilize.mono_l : ∀ k, (∀ y0 y1 y2 y3 y4 y5, LeO (impl_stabilize.l0 k y0 y1 y2 y3 y4 y5) (impl_stabilize.l0 (k + 1) y0 y1 y2 y3 y4 y5))
  | 0 => fun _ _ _ _ _ _ r h => by simp [impl_stabilize.l0] at h
  | k + 1 => by
    have ih0 := impl_stabilize.mono_l k
    · intro y0 y1 y2 y3 y4 y5
      unfold impl_stabilize.l0
      repeat' first
      | (with_reducible exact ih0 _ _ _ _ _ _)
      | (with_reducible exact impl_Valence.mono _ _ _ _)
      | (with_reducible exact impl_fire.mono _ _ _ _ _ _)
      | (with_reducible exact impl_unstable.mono _ _ _ _ _)
      | (with_reducible exact LeO.refl _)
      | (with_reducible exact LeO.none _)
      | (with_reducible refine LeO.ite ?_ ?_)
      | (with_reducible refine LeO.bind ?_ (fun _ => ?_))
      | exact ih0 _ _ _ _ _ _
      | exact impl_Valence.mono _ _ _ _
      | exact impl_fire.mono _ _ _ _ _ _
      | exact impl_unstable.mono _ _ _ _ _
      | exact LeO.none _
      | refine LeO.ite ?_ ?_
      | refine LeO.bind ?_ (fun _ => ?_)
theorem impl_stabilize.mono : ∀ a0 a1 a2 a3 k, LeO (impl_stabilize.f k a0 a1 a2 a3) (impl_stabilize.f (k + 1) a0 a1 a2 a3) := by
  intro a0 a1 a2 a3 k; have ih0 := impl_stabilize.mono_l k; unfold impl_stabilize.f
  repeat' first
      | (with_reducible exact ih0 _ _ _ _ _ _)
      | (with_reducible exact impl_Valence.mono _ _ _ _)
      | (with_reducible exact impl_fire.mono _ _ _ _ _ _)
      | (with_reducible exact impl_unstable.mono _ _ _ _ _)
      | (with_reducible exact LeO.refl _)
      | (with_reducible exact LeO.none _)
      | (with_reducible refine LeO.ite ?_ ?_)
      | (with_reducible refine LeO.bind ?_ (fun _ => ?_))
      | exact ih0 _ _ _ _ _ _
      | exact impl_Valence.mono _ _ _ _
      | exact impl_fire.mono _ _ _ _ _ _
      | exact impl_unstable.mono _ _ _ _ _
      | exact LeO.none _
      | refine LeO.ite ?_ ?_
      | refine LeO.bind ?_ (fun _ => ?_)
end Go.Proofs.Ytjecgolakaiddaa.P
end

section
namespace Go.Proofs.Ytjecgolakaiddaa.Cf
set_option linter.unusedVariables false
set_option linter.unusedSimpArgs false
open Go.RowKit Go.Proofs.YtjecgolakaiddaaW.PrintWords Go.Proofs.Ytjecgolakaiddaa.P
/-- Where the graph is valid. -/
structure Gr (n : Nat) (es : List E) (q : Int) : Prop where
  n1 : 1 ≤ n
  n6 : n ≤ 6
  hes : ∀ e ∈ es, EOk n e
  hel : es.length ≤ 12
  hj : Joined n es
  hq : 0 ≤ q ∧ q < n
theorem Gr.of {n : Nat} {es : List E} {q : Int} (h : GOk (n : Int) es) (hq : 0 ≤ q ∧ q < n) : Gr n es q := by
  obtain ⟨h1, _, h3⟩ := h
  unfold EsOk at h1
  exact ⟨by omega, by omega, h1.2.2.2, h1.2.2.1, h3, hq⟩
end Go.Proofs.Ytjecgolakaiddaa.Cf
end

section
namespace Go.Proofs.Ytjecgolakaiddaa.Cf
set_option linter.unusedVariables false
set_option linter.unusedSimpArgs false
open Go.RowKit Go.Proofs.YtjecgolakaiddaaW.PrintWords Go.Proofs.YtjecgolakaiddaaW.PrintMore Go.Proofs.Ytjecgolakaiddaa.P
theorem multE_alt {n : Int} {e : E} (h : EOk n e) {a b : Int} (hab : a ≠ b) : multE a b e = if e.f0 = mn a b ∧ e.f1 = mx a b then 1 else 0 := by
  unfold EOk at h
  unfold multE mn mx
  by_cases c : b < a
  · rw [if_pos c, if_neg (show ¬ a < b by omega)]
    by_cases x : e.f0 = b ∧ e.f1 = a
    · rw [if_pos (.inr x), if_pos x]
    · rw [if_neg (by omega), if_neg x]
  · rw [if_neg c, if_pos (show a < b by omega)]
    by_cases x : e.f0 = a ∧ e.f1 = b
    · rw [if_pos (.inl x), if_pos x]
    · rw [if_neg (by omega), if_neg x]
theorem mult_self {n : Int} {es : List E} (hes : ∀ e ∈ es, EOk n e) (a : Int) : mult es a a = 0 := by
  apply sumE_zero
  intro e he
  have h := hes e he
  unfold EOk at h
  unfold multE
  rw [if_neg (by omega)]
theorem mult_drop {es : List E} {i : Nat} (h : i < es.length) (a b : Int) : mult (es.drop i) a b = multE a b es[i] + mult (es.drop (i + 1)) a b := by
  rw [List.drop_eq_getElem_cons h]
  exact sumE_cons _ _ _
theorem specMult_l0 (n : Int) (es : List E) (hes : ∀ e ∈ es, EOk n e) (hel : es.length ≤ 12) (a b : Int) (hab : a ≠ b) : ∀ (d i : Nat) (c : Int), i + d = es.length → 0 ≤ c → c ≤ i → Ep (fun k => spec_Multiplicity.l0 k a b c es (es.length : Int) (i : Int)) (· = c + mult (es.drop i) a b) := by
  intro d
  induction d with
  | zero =>
    intro i c hi h0 h1
    refine Ep.up ?_
    simp only [spec_Multiplicity.l0]
    refine Ep.neg (by omega) (Ep.now ?_)
    rw [List.drop_of_length_le (by omega)]
    simp [mult, sumE]
  | succ d ih =>
    intro i c hi h0 h1
    have hlt : i < es.length := by omega
    have hk := hes _ (List.getElem_mem hlt)
    refine Ep.up ?_
    simp only [spec_Multiplicity.l0]
    refine Ep.pos (by omega) (Ep.pos (by omega) (Ep.pos (by omega) ?_))
    rw [rdE_get hlt, wrap_succ (by omega), wrap_id (x := c + 1) (by omega) (by omega), mult_drop hlt, multE_alt hk hab]
    refine Ep.ite (fun h => Ep.ite (fun h2 => ?_) (fun h2 => ?_)) (fun h => ?_)
    · rw [if_pos ⟨h, h2⟩]
      refine (ih (i + 1) (c + 1) (by omega) (by omega) (by omega)).mono ?_
      rintro _ rfl
      omega
    · rw [if_neg (fun x => h2 x.2)]
      refine (ih (i + 1) c (by omega) (by omega) (by omega)).mono ?_
      rintro _ rfl
      omega
    · rw [if_neg (fun x => h x.1)]
      refine (ih (i + 1) c (by omega) (by omega) (by omega)).mono ?_
      rintro _ rfl
      omega
theorem l02Vert_eq (n : Int) (es : List E) (v : Int) : spec_l02Vert.f n es v = some (decide (0 ≤ v ∧ v < n)) := by
  unfold spec_l02Vert.f
  by_cases h : v ≥ 0
  · rw [if_pos h]
    have : (0 ≤ v ∧ v < n) ↔ v < n := ⟨fun x => x.2, fun x => ⟨h, x⟩⟩
    simp only [this]
  · rw [if_neg h]
    have : ¬ (0 ≤ v ∧ v < n) := fun x => h x.1
    simp only [this, decide_false]
theorem specMult (n : Int) (es : List E) (hes : ∀ e ∈ es, EOk n e) (hel : es.length ≤ 12) (a b : Int) (ha : 0 ≤ a ∧ a < n) (hb : 0 ≤ b ∧ b < n) : Ep (fun k => spec_Multiplicity.f k n es a b) (· = mult es a b) := by
  simp only [spec_Multiplicity.f]
  refine Ep.bind0 (l02Vert_eq _ _ _) (Ep.pos (by simpa using ha) (Ep.bind0 (l02Vert_eq _ _ _) (Ep.pos (by simpa using hb) ?_)))
  refine Ep.up ?_
  simp only [spec_Multiplicity.j0]
  refine Ep.ite (fun h => Ep.now ?_) (fun h => ?_)
  · have : a = b := by simpa using h
    rw [this, mult_self hes]
  · have hab : a ≠ b := by simpa using h
    refine (specMult_l0 n es hes hel a b hab es.length 0 0 (by omega) (by omega) (by omega)).mono ?_
    rintro _ rfl
    simp
theorem implMult_l0 (n : Int) (es : List E) (hes : ∀ e ∈ es, EOk n e) (hel : es.length ≤ 12) (a b : Int) (hab : a ≠ b) : ∀ (d i : Nat) (c : Int), i + d = es.length → 0 ≤ c → c ≤ i → Ep (fun k => impl_Multiplicity.l0 k a b c es (es.length : Int) (i : Int)) (· = c + mult (es.drop i) a b) := by
  intro d
  induction d with
  | zero =>
    intro i c hi h0 h1
    refine Ep.up ?_
    simp only [impl_Multiplicity.l0]
    refine Ep.neg (by omega) (Ep.now ?_)
    rw [List.drop_of_length_le (by omega)]
    simp [mult, sumE]
  | succ d ih =>
    intro i c hi h0 h1
    have hlt : i < es.length := by omega
    have hk := hes _ (List.getElem_mem hlt)
    refine Ep.up ?_
    simp only [impl_Multiplicity.l0]
    refine Ep.pos (by omega) (Ep.pos (by omega) (Ep.pos (by omega) ?_))
    rw [rdE_get hlt, wrap_succ (by omega), wrap_id (x := c + 1) (by omega) (by omega), mult_drop hlt, multE_alt hk hab]
    refine Ep.ite (fun h => Ep.ite (fun h2 => ?_) (fun h2 => ?_)) (fun h => ?_)
    · rw [if_pos ⟨h, h2⟩]
      refine (ih (i + 1) (c + 1) (by omega) (by omega) (by omega)).mono ?_
      rintro _ rfl
      omega
    · rw [if_neg (fun x => h2 x.2)]
      refine (ih (i + 1) c (by omega) (by omega) (by omega)).mono ?_
      rintro _ rfl
      omega
    · rw [if_neg (fun x => h x.1)]
      refine (ih (i + 1) c (by omega) (by omega) (by omega)).mono ?_
      rintro _ rfl
      omega
theorem implMult (n : Int) (es : List E) (hes : ∀ e ∈ es, EOk n e) (hel : es.length ≤ 12) (a b : Int) (ha : 0 ≤ a ∧ a < n) (hb : 0 ≤ b ∧ b < n) : Ep (fun k => impl_Multiplicity.f k n es a b) (· = mult es a b) := by
  simp only [impl_Multiplicity.f]
  refine Ep.neg (by unfold mn; split <;> omega) (Ep.neg (by unfold mx; split <;> omega) ?_)
  refine Ep.up ?_
  simp only [impl_Multiplicity.j0]
  refine Ep.ite (fun h => Ep.now ?_) (fun h => ?_)
  · have : a = b := by simpa using h
    rw [this, mult_self hes]
  · have hab : a ≠ b := by simpa using h
    refine (implMult_l0 n es hes hel a b hab es.length 0 0 (by omega) (by omega) (by omega)).mono ?_
    rintro _ rfl
    simp
/-- The first place, counted from i; or -1. -/
def idxF (x : Int) : List Int → Nat → Int
  | [], _ => -1
  | a :: r, i => if x = a then i else idxF x r (i + 1)
theorem idxF_drop {l : List Int} {i : Nat} (h : i < l.length) (x : Int) (j : Nat) : idxF x (l.drop i) j = if x = l[i] then (j : Int) else idxF x (l.drop (i + 1)) (j + 1) := by
  rw [List.drop_eq_getElem_cons h]
  rfl
theorem idxF_mem (x : Int) : ∀ (l : List Int) (i : Nat), 0 ≤ idxF x l i ↔ x ∈ l
  | [], i => by simp [idxF]
  | a :: r, i => by
    unfold idxF
    by_cases h : x = a
    · rw [if_pos h, h]; simp
    · rw [if_neg h, idxF_mem x r (i + 1)]; simp [h]
theorem index_l0 (l : List Int) (x : Int) (hl : l.length ≤ 1048576) : ∀ (d i : Nat), i + d = l.length → Ep (fun k => slices_Index_int_int.l0 k l x (l.length : Int) (i : Int)) (· = idxF x (l.drop i) i) := by
  intro d
  induction d with
  | zero =>
    intro i hi
    refine Ep.up ?_
    simp only [slices_Index_int_int.l0]
    refine Ep.neg (by omega) (Ep.now ?_)
    rw [List.drop_of_length_le (by omega)]
    rfl
  | succ d ih =>
    intro i hi
    have hlt : i < l.length := by omega
    refine Ep.up ?_
    simp only [slices_Index_int_int.l0]
    refine Ep.pos (by omega) (Ep.pos (by omega) (Ep.pos (by omega) ?_))
    rw [rd_get hlt, wrap_succ (by omega), idxF_drop hlt]
    refine Ep.ite (fun h => Ep.now ?_) (fun h => ?_)
    · rw [if_pos h]
    · rw [if_neg h]
      exact ih (i + 1) (by omega)
theorem index_ok (l : List Int) (x : Int) (hl : l.length ≤ 1048576) : Ep (fun k => slices_Index_int_int.f k l x) (· = idxF x l 0) := by
  have := index_l0 l x hl l.length 0 (by omega)
  simp only [slices_Index_int_int.f]
  exact this
theorem contains_ok (l : List Int) (x : Int) (hl : l.length ≤ 1048576) : Ep (fun k => slices_Contains_int_int.f k l x) (· = decide (x ∈ l)) := by
  simp only [slices_Contains_int_int.f]
  refine Ep.bind (index_ok l x hl) ?_
  rintro _ rfl
  refine Ep.now ?_
  have := idxF_mem x l 0
  simp only [ge_iff_le, this]
theorem burnSum_bd {es : List E} (hel : es.length ≤ 12) (v : Int) : ∀ (b : List Int), 0 ≤ burnSum es b v ∧ burnSum es b v ≤ 12 * b.length
  | [] => by simp [burnSum]
  | a :: r => by
    have ih := burnSum_bd hel v r
    have h0 := mult_nonneg es v a
    have h1 := mult_le es v a
    unfold burnSum at ih ⊢
    rw [List.map_cons, List.sum_cons, List.length_cons]
    omega
/-- The list of truth values tells what burns. -/
def BRep (n : Nat) (x : List Bool) (b : List Int) : Prop := x.length = n ∧ ∀ w : Nat, w < n → rdOf false x (w : Int) = decide ((w : Int) ∈ b)
theorem BRep.push {n : Nat} {x : List Bool} {b : List Int} (h : BRep n x b) {v : Nat} (hv : v < n) : BRep n (x.set v true) (b ++ [(v : Int)]) := by
  refine ⟨by rw [List.length_set]; exact h.1, fun w hw => ?_⟩
  have := h.2 w hw
  simp only [rdOf, Int.toNat_natCast, List.getD_eq_getElem?_getD] at this ⊢
  by_cases e : v = w
  · subst e
    rw [List.getElem?_set_self (by have := h.1; omega)]
    simp
  · rw [List.getElem?_set_ne e, this]
    have : ¬ (w : Int) = v := by omega
    simp [this]
theorem BRep.start {n : Nat} {q : Int} (h0 : 0 ≤ q) (h1 : q < n) : BRep n ((List.replicate n false).set q.toNat true) [q] := by
  have h : BRep n (List.replicate n false) [] := ⟨by simp, fun w hw => by simp [rdOf, hw]⟩
  have := h.push (v := q.toNat) (by omega)
  have e : ((q.toNat : Nat) : Int) = q := by omega
  rw [e] at this
  exact this
theorem specBurn_l2 {n : Nat} {es : List E} {q : Int} (g : Gr n es q) (d : List Int) (hd : d.length = n) (b : List Int) (hok : b.Nodup ∧ ∀ v ∈ b, 0 ≤ v ∧ v < n) (x : List Bool) (hx : BRep n x b) (v : Nat) (hv : v < n) (next : Int) {Q : List Int → Prop}
    (hk : Ep (fun k => spec_l05Burn.l1 k d b x (if (v : Int) ∉ b ∧ rd d v < burnSum es b v then (v : Int) else next) ((v : Int) - 1) (n : Int) es) Q) :
    ∀ (dd i : Nat), i + dd = n → Ep (fun k => spec_l05Burn.l2 k d b x next (v : Int) (sumN i (fun w => if (w : Int) ∈ b then mult es v w else 0)) (i : Int) (n : Int) es) Q := by
  have hn := g.n6
  have hel := g.hel
  have hxl := hx.1
  have hbd : ∀ i, i ≤ n → 0 ≤ sumN i (fun w => if (w : Int) ∈ b then mult es v w else 0) ∧ sumN i (fun w => if (w : Int) ∈ b then mult es v w else 0) ≤ i * 12 := by
    intro i hi
    have hm : ∀ w : Nat, 0 ≤ (if (w : Int) ∈ b then mult es v w else 0) ∧ (if (w : Int) ∈ b then mult es v w else 0) ≤ 12 := by
      intro w
      have h0 := mult_nonneg es v w
      have h1 := mult_le es v w
      split <;> omega
    exact ⟨sumN_nonneg fun w _ => (hm w).1, sumN_le_const fun w _ => (hm w).2⟩
  intro dd
  induction dd with
  | zero =>
    intro i hi
    obtain rfl : i = n := by omega
    rw [sum_pick (mult es v) i b hok.1 hok.2]
    show Ep (fun k => spec_l05Burn.l2 k d b x next (v : Int) (burnSum es b v) (i : Int) (i : Int) es) Q
    refine Ep.up ?_
    simp only [spec_l05Burn.l2]
    rw [wrap_id (x := (v : Int) - 1) (by omega) (by omega)]
    refine Ep.neg (by omega) (Ep.pos (by omega) (Ep.pos (by omega) ?_))
    rw [hx.2 v hv]
    refine Ep.ite (fun h => ?_) (fun h => ?_)
    · have h' : (v : Int) ∈ b := by simpa using h
      rw [if_neg (fun y => y.1 h')] at hk
      exact hk
    · have h' : (v : Int) ∉ b := by simpa using h
      refine Ep.pos (by omega) (Ep.ite (fun h2 => ?_) (fun h2 => ?_))
      · rw [if_pos ⟨h', h2⟩] at hk
        exact hk
      · rw [if_neg (fun y => h2 y.2)] at hk
        exact hk
  | succ dd ih =>
    intro i hi
    have hb := hbd i (by omega)
    have hb1 := hbd (i + 1) (by omega)
    have ih' := ih (i + 1) (by omega)
    simp only [sumN] at ih' hb1
    refine Ep.up ?_
    simp only [spec_l05Burn.l2]
    refine Ep.pos (by omega) (Ep.pos (by omega) (Ep.pos (by omega) ?_))
    rw [hx.2 i (by omega), wrap_succ (by omega)]
    refine Ep.ite (fun h => ?_) (fun h => ?_)
    · have h' : (i : Int) ∈ b := by simpa using h
      rw [if_pos h'] at ih' hb1
      refine Ep.bind (specMult n es g.hes hel v i (by omega) (by omega)) ?_
      rintro _ rfl
      rw [wrap_id (by omega) (by omega)]
      exact ih'
    · have h' : (i : Int) ∉ b := by simpa using h
      rw [if_neg h', Int.add_zero] at ih'
      exact ih'
theorem specBurn_l1 {n : Nat} {es : List E} {q : Int} (g : Gr n es q) (d : List Int) (hd : d.length = n) (b : List Int) (hok : b.Nodup ∧ ∀ v ∈ b, 0 ≤ v ∧ v < n) (x : List Bool) (hx : BRep n x b) {Q : List Int → Prop}
    (hk : Ep (fun k => spec_l05Burn.l1 k d b x (nextB es (rd d) b n 0) (-1) (n : Int) es) Q) :
    ∀ i : Nat, i ≤ n → Ep (fun k => spec_l05Burn.l1 k d b x (nextB es (rd d) b (n - i) i) ((i : Int) - 1) (n : Int) es) Q := by
  have hn := g.n6
  intro i
  induction i with
  | zero => intro _; exact hk
  | succ i ih =>
    intro hi
    have ih' := ih (by omega)
    obtain ⟨m, hm⟩ : ∃ m, n - i = m + 1 := ⟨n - i - 1, by omega⟩
    have hm2 : n - (i + 1) = m := by omega
    rw [hm] at ih'
    unfold nextB at ih'
    rw [hm2, show (((i + 1 : Nat) : Int) - 1) = (i : Int) by omega]
    refine Ep.up ?_
    simp only [spec_l05Burn.l1]
    refine Ep.pos (by omega) ?_
    exact specBurn_l2 g d hd b hok x hx i (by omega) _ ih' n 0 (by omega)
theorem specBurn_l0 {n : Nat} {es : List E} {q : Int} (g : Gr n es q) (d : List Int) (hd : d.length = n) : ∀ (k : Nat) (b : List Int) (x : List Bool), n + 1 ≤ b.length + k → Burn n es (rd d) q b → BRep n x b → Ep (fun f => spec_l05Burn.l0 f d b x (n : Int) es) (· = burnW n es (rd d) k b) := by
  have hn := g.n6
  intro k
  induction k with
  | zero =>
    intro b x hl hb _
    have := hb.len g.hq
    omega
  | succ k ih =>
    intro b x hl hb hx
    have hok := hb.ok g.hq
    have hlen := hb.len g.hq
    have hxl := hx.1
    refine Ep.up ?_
    simp only [spec_l05Burn.l0]
    rw [wrap_id (x := (n : Int) - 1) (by omega) (by omega)]
    have h1 := specBurn_l1 (Q := (· = burnW n es (rd d) (k + 1) b)) g d hd b ⟨hok.1, hok.2.1⟩ x hx ?_ n (Nat.le_refl _)
    · rw [Nat.sub_self] at h1
      exact h1
    · unfold burnW
      have hnx := nextB_ok es (rd d) b n 0
      generalize nextB es (rd d) b n 0 = v at hnx ⊢
      refine Ep.up ?_
      simp only [spec_l05Burn.l1]
      refine Ep.neg (by omega) (Ep.ite (fun h => Ep.now ?_) (fun h => ?_))
      · rw [if_pos h]
      · rw [if_neg h]
        rcases hnx with ⟨h2, _⟩ | ⟨h2, h3, h4, h5⟩
        · omega
        · obtain ⟨v, rfl⟩ := Int.eq_ofNat_of_zero_le (a := v) (by omega)
          refine Ep.pos (by omega) (Ep.pos (by omega) (Ep.pos (by omega) ?_))
          exact ih _ _ (by simp; omega) (hb.step (by omega) (by omega) h4 h5) (hx.push (by omega))
theorem specBurn {n : Nat} {es : List E} {q : Int} (g : Gr n es q) (d : List Int) (hd : d.length = n) : Ep (fun k => spec_l05Burn.f k (n : Int) es d q) (· = burnF n es (rd d) q) := by
  have hn := g.n6
  have hq := g.hq
  simp only [spec_l05Burn.f]
  refine Ep.pos (by omega) (Ep.pos (by omega) (Ep.bind0 rfl (Ep.pos (by omega) (Ep.pos (by simp; omega) ?_))))
  exact specBurn_l0 g d hd n [q] _ (by simp; omega) .start (BRep.start hq.1 hq.2)
theorem implBurn_l2 {n : Nat} {es : List E} {q : Int} (g : Gr n es q) (d : List Int) (hd : d.length = n) (b : List Int) (hok : b.Nodup ∧ ∀ v ∈ b, 0 ≤ v ∧ v < n) (hbl : b.length ≤ n) (v : Nat) (hv : v < n) {Q : List Int → Prop}
    (hk : Ep (fun k => impl_burn.l1 k d b (if (v : Int) ∉ b ∧ rd d v < burnSum es b v then (v : Int) else -1) ((v + 1 : Nat) : Int) (n : Int) es) Q) :
    ∀ (dd i : Nat), i + dd = b.length → Ep (fun k => impl_burn.l2 k d b (-1) (v : Int) (burnSum es (b.take i) v) b (b.length : Int) (i : Int) (n : Int) es) Q := by
  have hn := g.n6
  have hel := g.hel
  intro dd
  induction dd with
  | zero =>
    intro i hi
    rw [List.take_of_length_le (by omega)]
    refine Ep.up ?_
    simp only [impl_burn.l2]
    have hw := wrap_succ (i := v) (by omega)
    rw [hw]
    refine Ep.neg (by omega) ?_
    refine Ep.bind (contains_ok b v (by omega)) ?_
    rintro _ rfl
    refine Ep.ite (fun h => ?_) (fun h => ?_)
    · have h' : (v : Int) ∈ b := by simpa using h
      rw [if_neg (fun y => y.1 h')] at hk
      exact hk
    · have h' : (v : Int) ∉ b := by simpa using h
      refine Ep.pos (by omega) (Ep.pos (by omega) (Ep.ite (fun h2 => ?_) (fun h2 => ?_)))
      · rw [if_pos ⟨h', h2⟩] at hk
        exact hk
      · rw [if_neg (fun y => h2 y.2)] at hk
        exact hk
  | succ dd ih =>
    intro i hi
    have hlt : i < b.length := by omega
    have hbi := hok.2 _ (List.getElem_mem hlt)
    have hb := burnSum_bd hel v (b.take i)
    have hml := mult_le es v b[i]
    have hm0 := mult_nonneg es v b[i]
    rw [List.length_take] at hb
    have e : burnSum es (b.take (i + 1)) v = burnSum es (b.take i) v + mult es v b[i] := by
      unfold burnSum
      rw [List.take_succ_eq_append_getElem hlt, List.map_append, List.sum_append]
      simp
    have ih' := ih (i + 1) (by omega)
    rw [e] at ih'
    refine Ep.up ?_
    simp only [impl_burn.l2]
    refine Ep.pos (by omega) (Ep.pos (by omega) (Ep.pos (by omega) ?_))
    rw [rd_get hlt, wrap_succ (by omega)]
    refine Ep.bind (implMult n es g.hes hel v b[i] (by omega) hbi) ?_
    rintro _ rfl
    rw [wrap_id (by omega) (by omega)]
    exact ih'
theorem implBurn_l1 {n : Nat} {es : List E} {q : Int} (g : Gr n es q) (d : List Int) (hd : d.length = n) (b : List Int) (hok : b.Nodup ∧ ∀ v ∈ b, 0 ≤ v ∧ v < n) (hbl : b.length ≤ n) {Q : List Int → Prop}
    (hk : Ep (fun k => if nextB es (rd d) b n 0 < 0 then some b else (if b.length < 17592186044416 then impl_burn.l0 k d (b ++ [nextB es (rd d) b n 0]) (n : Int) es else none)) Q) :
    ∀ (dd i : Nat), i + dd = n → nextB es (rd d) b n 0 = nextB es (rd d) b dd i → Ep (fun k => impl_burn.l1 k d b (-1) (i : Int) (n : Int) es) Q := by
  have hn := g.n6
  intro dd
  induction dd with
  | zero =>
    intro i hi he
    rw [he] at hk
    simp only [nextB] at hk
    refine Ep.up ?_
    simp only [impl_burn.l1]
    refine Ep.neg (by omega) (Ep.up ?_)
    simp only [impl_burn.j2]
    exact Ep.neg (by simp) hk
  | succ dd ih =>
    intro i hi he
    refine Ep.up ?_
    simp only [impl_burn.l1]
    refine Ep.pos (by omega) (Ep.up ?_)
    simp only [impl_burn.j2]
    refine Ep.pos (by simp) ?_
    have h2 := implBurn_l2 (Q := Q) g d hd b hok hbl i (by omega) ?_ b.length 0 (by omega)
    · simpa [burnSum] using h2
    · replace he : nextB es (rd d) b n 0 = (if (i : Int) ∉ b ∧ rd d i < burnSum es b i then (i : Int) else nextB es (rd d) b dd (i + 1)) := he
      by_cases h : (i : Int) ∉ b ∧ rd d i < burnSum es b i
      · rw [if_pos h] at he ⊢
        rw [he] at hk
        refine Ep.up ?_
        simp only [impl_burn.l1]
        refine Ep.ite (fun _ => ?_) (fun _ => ?_)
        · refine Ep.up ?_
          simp only [impl_burn.j2]
          exact Ep.neg (by simp) hk
        · refine Ep.up ?_
          simp only [impl_burn.j2]
          exact Ep.neg (by simp) hk
      · rw [if_neg h] at he ⊢
        exact ih (i + 1) (by omega) he
theorem implBurn_l0 {n : Nat} {es : List E} {q : Int} (g : Gr n es q) (d : List Int) (hd : d.length = n) : ∀ (k : Nat) (b : List Int), n + 1 ≤ b.length + k → Burn n es (rd d) q b → Ep (fun f => impl_burn.l0 f d b (n : Int) es) (· = burnW n es (rd d) k b) := by
  have hn := g.n6
  intro k
  induction k with
  | zero =>
    intro b hl hb
    have := hb.len g.hq
    omega
  | succ k ih =>
    intro b hl hb
    have hok := hb.ok g.hq
    have hlen := hb.len g.hq
    refine Ep.up ?_
    simp only [impl_burn.l0]
    refine implBurn_l1 (Q := (· = burnW n es (rd d) (k + 1) b)) g d hd b ⟨hok.1, hok.2.1⟩ hlen ?_ n 0 (by omega) rfl
    unfold burnW
    have hnx := nextB_ok es (rd d) b n 0
    generalize nextB es (rd d) b n 0 = v at hnx ⊢
    refine Ep.ite (fun h => Ep.now ?_) (fun h => ?_)
    · rw [if_pos h]
    · rw [if_neg h]
      rcases hnx with ⟨h2, _⟩ | ⟨h2, h3, h4, h5⟩
      · omega
      · exact Ep.pos (by omega) (ih _ (by simp; omega) (hb.step (by omega) (by omega) h4 h5))
theorem implBurn {n : Nat} {es : List E} {q : Int} (g : Gr n es q) (d : List Int) (hd : d.length = n) : Ep (fun k => impl_burn.f k (n : Int) es d q) (· = burnF n es (rd d) q) := by
  have hn := g.n6
  simp only [impl_burn.f]
  exact implBurn_l0 g d hd n [q] (by simp; omega) .start
end Go.Proofs.Ytjecgolakaiddaa.Cf
end

section
namespace Go.Proofs.Ytjecgolakaiddaa.P
open Go.RowKit Go.Proofs.YtjecgolakaiddaaW.PrintWords Go.Proofs.YtjecgolakaiddaaW.PrintLast Go.Proofs.YtjecgolakaiddaaW.PrintMore
attribute [local go_sem] max2_int min2_int max_two min_two max_three min_three max_four min_four
set_option linter.unusedVariables false
set_option linter.unusedSimpArgs false
mutual
def spec_l05Reduce.l0 : Nat → List Int → Int → List Int → List Int → Int → List (S70) → Option (List Int × List Int)
  | 0, _, _, _, _, _, _ => none
  | k + 1, x1, x2, x8, x9, x102000, x102001 => (spec_l05Debt.f k x9 x2).bind fun t111 => (if t111 = true then (spec_l05Reduce.l1 k x1 x2 x8 x9 (x9.length : Int) 0 x102000 x102001) else (spec_l05Reduce.l2 k x1 x2 x8 x9 x102000 x102001))
def spec_l05Reduce.l1 : Nat → List Int → Int → List Int → List Int → Int → Int → Int → List (S70) → Option (List Int × List Int)
  | 0, _, _, _, _, _, _, _, _ => none
  | k + 1, x1, x2, x8, x9, x23, x24, x102000, x102001 => if x24 < x23 then (if x24 = x2 then (spec_l05Reduce.l1 k x1 x2 x8 x9 x23 (wrap64 (x24 + 1)) x102000 x102001) else (if 0 ≤ x24 then (if x24 < (x9.length : Int) then (if (rd x9 x24) < 0 then (if x24 < (x8.length : Int) then ((some (x8.set (x24 : Int).toNat (wrap64 ((rd x8 x24) - 1)) : List Int)).bind fun y114 => ((spec_l04Fire.f k x102000 x102001 x1 y114).bind fun t115 => (spec_l05Reduce.l1 k x1 x2 y114 t115 x23 (wrap64 (x24 + 1)) x102000 x102001))) else (none)) else (spec_l05Reduce.l1 k x1 x2 x8 x9 x23 (wrap64 (x24 + 1)) x102000 x102001)) else (none)) else (none))) else (spec_l05Reduce.l0 k x1 x2 x8 x9 x102000 x102001)
def spec_l05Reduce.l2 : Nat → List Int → Int → List Int → List Int → Int → List (S70) → Option (List Int × List Int)
  | 0, _, _, _, _, _, _ => none
  | k + 1, x1, x2, x8, x9, x102000, x102001 => (spec_l05Burn.f k x102000 x102001 x9 x2).bind fun t118 => (if (t118.length : Int) = x102000 then (some (x9, x8)) else (spec_l05Reduce.l3 k x1 x2 x8 t118 0 x102000 x102001))
def spec_l05Reduce.l3 : Nat → List Int → Int → List Int → List Int → Int → Int → List (S70) → Option (List Int × List Int)
  | 0, _, _, _, _, _, _, _ => none
  | k + 1, x1, x2, x8, x11, x12, x102000, x102001 => if x12 < x102000 then ((spec_l02Has.f k x11 x12).bind fun t121 => (if t121 = true then (spec_l05Reduce.l3 k x1 x2 x8 x11 (wrap64 (x12 + 1)) x102000 x102001) else (if 0 ≤ x12 then (if x12 < (x8.length : Int) then (spec_l05Reduce.l3 k x1 x2 (x8.set (x12 : Int).toNat (wrap64 ((rd x8 x12) + 1))) x11 (wrap64 (x12 + 1)) x102000 x102001) else (none)) else (none)))) else ((spec_l04Fire.f k x102000 x102001 x1 x8).bind fun t124 => (spec_l05Reduce.l2 k x1 x2 x8 t124 x102000 x102001))
end
def spec_l05Reduce.f (k : Nat) (a0_0 : Int) (l0_1 : List (S70)) (l1 : List Int) (a2 : Int) : Option (List Int × List Int) := if 0 ≤ a0_0 then (if (a0_0 : Int).toNat ≤ 35184372088832 then ((some (([] : List Int) : List Int)).bind fun y105 => (if y105.length + l1.length < 17592186044416 then (spec_l05Reduce.l0 k l1 a2 (List.replicate (a0_0 : Int).toNat 0) (y105 ++ l1) a0_0 l0_1) else (none))) else (none)) else (none)
theorem spec_l05Reduce.mono_l : ∀ k, (∀ y0 y1 y2 y3 y4 y5, LeO (spec_l05Reduce.l0 k y0 y1 y2 y3 y4 y5) (spec_l05Reduce.l0 (k + 1) y0 y1 y2 y3 y4 y5)) ∧ (∀ y0 y1 y2 y3 y4 y5 y6 y7, LeO (spec_l05Reduce.l1 k y0 y1 y2 y3 y4 y5 y6 y7) (spec_l05Reduce.l1 (k + 1) y0 y1 y2 y3 y4 y5 y6 y7)) ∧ (∀ y0 y1 y2 y3 y4 y5, LeO (spec_l05Reduce.l2 k y0 y1 y2 y3 y4 y5) (spec_l05Reduce.l2 (k + 1) y0 y1 y2 y3 y4 y5)) ∧ (∀ y0 y1 y2 y3 y4 y5 y6, LeO (spec_l05Reduce.l3 k y0 y1 y2 y3 y4 y5 y6) (spec_l05Reduce.l3 (k + 1) y0 y1 y2 y3 y4 y5 y6))
  | 0 => ⟨fun _ _ _ _ _ _ r h => by simp [spec_l05Reduce.l0] at h, fun _ _ _ _ _ _ _ _ r h => by simp [spec_l05Reduce.l1] at h, fun _ _ _ _ _ _ r h => by simp [spec_l05Reduce.l2] at h, fun _ _ _ _ _ _ _ r h => by simp [spec_l05Reduce.l3] at h⟩
  | k + 1 => by
    obtain ⟨ih0, ih1, ih2, ih3⟩ := spec_l05Reduce.mono_l k
    refine ⟨?_, ?_, ?_, ?_⟩
    · intro y0 y1 y2 y3 y4 y5
      unfold spec_l05Reduce.l0
      repeat' first
      | (with_reducible exact ih0 _ _ _ _ _ _)
      | (with_reducible exact ih1 _ _ _ _ _ _ _ _)
      | (with_reducible exact ih2 _ _ _ _ _ _)
      | (with_reducible exact ih3 _ _ _ _ _ _ _)
      | (with_reducible exact spec_l02Has.mono _ _ _)
      | (with_reducible exact spec_l04Fire.mono _ _ _ _ _)
      | (with_reducible exact spec_l05Burn.mono _ _ _ _ _)
      | (with_reducible exact spec_l05Debt.mono _ _ _)
      | (with_reducible exact LeO.refl _)
      | (with_reducible exact LeO.none _)
      | (with_reducible refine LeO.ite ?_ ?_)
      | (with_reducible refine LeO.bind ?_ (fun _ => ?_))
      | exact ih0 _ _ _ _ _ _
      | exact ih1 _ _ _ _ _ _ _ _
      | exact ih2 _ _ _ _ _ _
      | exact ih3 _ _ _ _ _ _ _
      | exact spec_l02Has.mono _ _ _
      | exact spec_l04Fire.mono _ _ _ _ _
      | exact spec_l05Burn.mono _ _ _ _ _
      | exact spec_l05Debt.mono _ _ _
      | exact LeO.none _
      | refine LeO.ite ?_ ?_
      | refine LeO.bind ?_ (fun _ => ?_)
    · intro y0 y1 y2 y3 y4 y5 y6 y7
      unfold spec_l05Reduce.l1
      repeat' first
      | (with_reducible exact ih0 _ _ _ _ _ _)
      | (with_reducible exact ih1 _ _ _ _ _ _ _ _)
      | (with_reducible exact ih2 _ _ _ _ _ _)
      | (with_reducible exact ih3 _ _ _ _ _ _ _)
      | (with_reducible exact spec_l02Has.mono _ _ _)
      | (with_reducible exact spec_l04Fire.mono _ _ _ _ _)
      | (with_reducible exact spec_l05Burn.mono _ _ _ _ _)
      | (with_reducible exact spec_l05Debt.mono _ _ _)
      | (with_reducible exact LeO.refl _)
      | (with_reducible exact LeO.none _)
      | (with_reducible refine LeO.ite ?_ ?_)
      | (with_reducible refine LeO.bind ?_ (fun _ => ?_))
      | exact ih0 _ _ _ _ _ _
      | exact ih1 _ _ _ _ _ _ _ _
      | exact ih2 _ _ _ _ _ _
      | exact ih3 _ _ _ _ _ _ _
      | exact spec_l02Has.mono _ _ _
      | exact spec_l04Fire.mono _ _ _ _ _
      | exact spec_l05Burn.mono _ _ _ _ _
      | exact spec_l05Debt.mono _ _ _
      | exact LeO.none _
      | refine LeO.ite ?_ ?_
      | refine LeO.bind ?_ (fun _ => ?_)
    · intro y0 y1 y2 y3 y4 y5
      unfold spec_l05Reduce.l2
      repeat' first
      | (with_reducible exact ih0 _ _ _ _ _ _)
      | (with_reducible exact ih1 _ _ _ _ _ _ _ _)
      | (with_reducible exact ih2 _ _ _ _ _ _)
      | (with_reducible exact ih3 _ _ _ _ _ _ _)
      | (with_reducible exact spec_l02Has.mono _ _ _)
      | (with_reducible exact spec_l04Fire.mono _ _ _ _ _)
      | (with_reducible exact spec_l05Burn.mono _ _ _ _ _)
      | (with_reducible exact spec_l05Debt.mono _ _ _)
      | (with_reducible exact LeO.refl _)
      | (with_reducible exact LeO.none _)
      | (with_reducible refine LeO.ite ?_ ?_)
      | (with_reducible refine LeO.bind ?_ (fun _ => ?_))
      | exact ih0 _ _ _ _ _ _
      | exact ih1 _ _ _ _ _ _ _ _
      | exact ih2 _ _ _ _ _ _
      | exact ih3 _ _ _ _ _ _ _
      | exact spec_l02Has.mono _ _ _
      | exact spec_l04Fire.mono _ _ _ _ _
      | exact spec_l05Burn.mono _ _ _ _ _
      | exact spec_l05Debt.mono _ _ _
      | exact LeO.none _
      | refine LeO.ite ?_ ?_
      | refine LeO.bind ?_ (fun _ => ?_)
    · intro y0 y1 y2 y3 y4 y5 y6
      unfold spec_l05Reduce.l3
      repeat' first
      | (with_reducible exact ih0 _ _ _ _ _ _)
      | (with_reducible exact ih1 _ _ _ _ _ _ _ _)
      | (with_reducible exact ih2 _ _ _ _ _ _)
      | (with_reducible exact ih3 _ _ _ _ _ _ _)
      | (with_reducible exact spec_l02Has.mono _ _ _)
      | (with_reducible exact spec_l04Fire.mono _ _ _ _ _)
      | (with_reducible exact spec_l05Burn.mono _ _ _ _ _)
      | (with_reducible exact spec_l05Debt.mono _ _ _)
      | (with_reducible exact LeO.refl _)
      | (with_reducible exact LeO.none _)
      | (with_reducible refine LeO.ite ?_ ?_)
      | (with_reducible refine LeO.bind ?_ (fun _ => ?_))
      | exact ih0 _ _ _ _ _ _
      | exact ih1 _ _ _ _ _ _ _ _
      | exact ih2 _ _ _ _ _ _
      | exact ih3 _ _ _ _ _ _ _
      | exact spec_l02Has.mono _ _ _
      | exact spec_l04Fire.mono _ _ _ _ _
      | exact spec_l05Burn.mono _ _ _ _ _
      | exact spec_l05Debt.mono _ _ _
      | exact LeO.none _
      | refine LeO.ite ?_ ?_
      | refine LeO.bind ?_ (fun _ => ?_)
theorem spec_l05Reduce.mono : ∀ a0 a1 a2 a3 k, LeO (spec_l05Reduce.f k a0 a1 a2 a3) (spec_l05Reduce.f (k + 1) a0 a1 a2 a3) := by
  intro a0 a1 a2 a3 k; obtain ⟨ih0, ih1, ih2, ih3⟩ := spec_l05Reduce.mono_l k; unfold spec_l05Reduce.f
  repeat' first
      | (with_reducible exact ih0 _ _ _ _ _ _)
      | (with_reducible exact ih1 _ _ _ _ _ _ _ _)
      | (with_reducible exact ih2 _ _ _ _ _ _)
      | (with_reducible exact ih3 _ _ _ _ _ _ _)
      | (with_reducible exact spec_l02Has.mono _ _ _)
      | (with_reducible exact spec_l04Fire.mono _ _ _ _ _)
      | (with_reducible exact spec_l05Burn.mono _ _ _ _ _)
      | (with_reducible exact spec_l05Debt.mono _ _ _)
      | (with_reducible exact LeO.refl _)
      | (with_reducible exact LeO.none _)
      | (with_reducible refine LeO.ite ?_ ?_)
      | (with_reducible refine LeO.bind ?_ (fun _ => ?_))
      | exact ih0 _ _ _ _ _ _
      | exact ih1 _ _ _ _ _ _ _ _
      | exact ih2 _ _ _ _ _ _
      | exact ih3 _ _ _ _ _ _ _
      | exact spec_l02Has.mono _ _ _
      | exact spec_l04Fire.mono _ _ _ _ _
      | exact spec_l05Burn.mono _ _ _ _ _
      | exact spec_l05Debt.mono _ _ _
      | exact LeO.none _
      | refine LeO.ite ?_ ?_
      | refine LeO.bind ?_ (fun _ => ?_)
end Go.Proofs.Ytjecgolakaiddaa.P
end

section
namespace Go.Proofs.Ytjecgolakaiddaa.P
open Go.RowKit Go.Proofs.YtjecgolakaiddaaW.PrintWords Go.Proofs.YtjecgolakaiddaaW.PrintLast Go.Proofs.YtjecgolakaiddaaW.PrintMore
attribute [local go_sem] max2_int min2_int max_two min_two max_three min_three max_four min_four
set_option linter.unusedVariables false
set_option linter.unusedSimpArgs false
mutual
def impl_reduce.l0 : Nat → Int → List Int → List Int → Int → Int → List (S70) → Option (List Int × List Int)
  | 0, _, _, _, _, _, _ => none
  | k + 1, x2, x8, x9, x10, x102000, x102001 => if x10 ≥ 0 then ((impl_Valence.f k x102000 x102001 x10).bind fun t109 => (if 0 ≤ x10 then (if x10 < (x8.length : Int) then (if t109 = 0 then (none) else ((impl_fire.f k x102000 x102001 x8 x10 (wrap64 (-(wrap64 (Int.tdiv (wrap64 ((wrap64 (t109 - 1)) - (rd x8 x10))) t109))))).bind fun t111 => (if x10 < (x9.length : Int) then ((impl_inDebt.f k t111 x2).bind fun t114 => (impl_reduce.l0 k x2 t111 (x9.set (x10 : Int).toNat (wrap64 ((rd x9 x10) - (wrap64 (Int.tdiv (wrap64 ((wrap64 (t109 - 1)) - (rd x8 x10))) t109))))) t114 x102000 x102001)) else (none)))) else (none)) else (none))) else (impl_reduce.l1 k x2 x8 x9 x102000 x102001)
def impl_reduce.l1 : Nat → Int → List Int → List Int → Int → List (S70) → Option (List Int × List Int)
  | 0, _, _, _, _, _ => none
  | k + 1, x2, x8, x9, x102000, x102001 => (impl_burn.f k x102000 x102001 x8 x2).bind fun t115 => (if (t115.length : Int) = x102000 then (some (x8, x9)) else (impl_reduce.l2 k x2 x8 x9 t115 (x9.length : Int) 0 x102000 x102001))
def impl_reduce.l2 : Nat → Int → List Int → List Int → List Int → Int → Int → Int → List (S70) → Option (List Int × List Int)
  | 0, _, _, _, _, _, _, _, _ => none
  | k + 1, x2, x8, x9, x13, x65, x66, x102000, x102001 => if x66 < x65 then ((slices_Contains_int_int.f k x13 x66).bind fun t118 => (if t118 = true then (impl_reduce.l2 k x2 x8 x9 x13 x65 (wrap64 (x66 + 1)) x102000 x102001) else ((impl_fire.f k x102000 x102001 x8 x66 1).bind fun t119 => (if 0 ≤ x66 then (if x66 < (x9.length : Int) then (impl_reduce.l2 k x2 t119 (x9.set (x66 : Int).toNat (wrap64 ((rd x9 x66) + 1))) x13 x65 (wrap64 (x66 + 1)) x102000 x102001) else (none)) else (none))))) else (impl_reduce.l1 k x2 x8 x9 x102000 x102001)
end
def impl_reduce.f (k : Nat) (a0_0 : Int) (l0_1 : List (S70)) (l1 : List Int) (a2 : Int) : Option (List Int × List Int) := (impl_copyInts.f l1).bind fun t102 => (if 0 ≤ a0_0 then (if (a0_0 : Int).toNat ≤ 35184372088832 then ((impl_inDebt.f k t102 a2).bind fun t108 => (impl_reduce.l0 k a2 t102 (List.replicate (a0_0 : Int).toNat 0) t108 a0_0 l0_1)) else (none)) else (none))
theorem impl_reduce.mono_l : ∀ k, (∀ y0 y1 y2 y3 y4 y5, LeO (impl_reduce.l0 k y0 y1 y2 y3 y4 y5) (impl_reduce.l0 (k + 1) y0 y1 y2 y3 y4 y5)) ∧ (∀ y0 y1 y2 y3 y4, LeO (impl_reduce.l1 k y0 y1 y2 y3 y4) (impl_reduce.l1 (k + 1) y0 y1 y2 y3 y4)) ∧ (∀ y0 y1 y2 y3 y4 y5 y6 y7, LeO (impl_reduce.l2 k y0 y1 y2 y3 y4 y5 y6 y7) (impl_reduce.l2 (k + 1) y0 y1 y2 y3 y4 y5 y6 y7))
  | 0 => ⟨fun _ _ _ _ _ _ r h => by simp [impl_reduce.l0] at h, fun _ _ _ _ _ r h => by simp [impl_reduce.l1] at h, fun _ _ _ _ _ _ _ _ r h => by simp [impl_reduce.l2] at h⟩
  | k + 1 => by
    obtain ⟨ih0, ih1, ih2⟩ := impl_reduce.mono_l k
    refine ⟨?_, ?_, ?_⟩
    · intro y0 y1 y2 y3 y4 y5
      unfold impl_reduce.l0
      repeat' first
      | (with_reducible exact ih0 _ _ _ _ _ _)
      | (with_reducible exact ih1 _ _ _ _ _)
      | (with_reducible exact ih2 _ _ _ _ _ _ _ _)
      | (with_reducible exact impl_Valence.mono _ _ _ _)
      | (with_reducible exact impl_burn.mono _ _ _ _ _)
      | (with_reducible exact impl_fire.mono _ _ _ _ _ _)
      | (with_reducible exact impl_inDebt.mono _ _ _)
      | (with_reducible exact slices_Contains_int_int.mono _ _ _)
      | (with_reducible exact LeO.refl _)
      | (with_reducible exact LeO.none _)
      | (with_reducible refine LeO.ite ?_ ?_)
      | (with_reducible refine LeO.bind ?_ (fun _ => ?_))
      | exact ih0 _ _ _ _ _ _
      | exact ih1 _ _ _ _ _
      | exact ih2 _ _ _ _ _ _ _ _
      | exact impl_Valence.mono _ _ _ _
      | exact impl_burn.mono _ _ _ _ _
      | exact impl_fire.mono _ _ _ _ _ _
      | exact impl_inDebt.mono _ _ _
      | exact slices_Contains_int_int.mono _ _ _
      | exact LeO.none _
      | refine LeO.ite ?_ ?_
      | refine LeO.bind ?_ (fun _ => ?_)
    · intro y0 y1 y2 y3 y4
      unfold impl_reduce.l1
      repeat' first
      | (with_reducible exact ih0 _ _ _ _ _ _)
      | (with_reducible exact ih1 _ _ _ _ _)
      | (with_reducible exact ih2 _ _ _ _ _ _ _ _)
      | (with_reducible exact impl_Valence.mono _ _ _ _)
      | (with_reducible exact impl_burn.mono _ _ _ _ _)
      | (with_reducible exact impl_fire.mono _ _ _ _ _ _)
      | (with_reducible exact impl_inDebt.mono _ _ _)
      | (with_reducible exact slices_Contains_int_int.mono _ _ _)
      | (with_reducible exact LeO.refl _)
      | (with_reducible exact LeO.none _)
      | (with_reducible refine LeO.ite ?_ ?_)
      | (with_reducible refine LeO.bind ?_ (fun _ => ?_))
      | exact ih0 _ _ _ _ _ _
      | exact ih1 _ _ _ _ _
      | exact ih2 _ _ _ _ _ _ _ _
      | exact impl_Valence.mono _ _ _ _
      | exact impl_burn.mono _ _ _ _ _
      | exact impl_fire.mono _ _ _ _ _ _
      | exact impl_inDebt.mono _ _ _
      | exact slices_Contains_int_int.mono _ _ _
      | exact LeO.none _
      | refine LeO.ite ?_ ?_
      | refine LeO.bind ?_ (fun _ => ?_)
    · intro y0 y1 y2 y3 y4 y5 y6 y7
      unfold impl_reduce.l2
      repeat' first
      | (with_reducible exact ih0 _ _ _ _ _ _)
      | (with_reducible exact ih1 _ _ _ _ _)
      | (with_reducible exact ih2 _ _ _ _ _ _ _ _)
      | (with_reducible exact impl_Valence.mono _ _ _ _)
      | (with_reducible exact impl_burn.mono _ _ _ _ _)
      | (with_reducible exact impl_fire.mono _ _ _ _ _ _)
      | (with_reducible exact impl_inDebt.mono _ _ _)
      | (with_reducible exact slices_Contains_int_int.mono _ _ _)
      | (with_reducible exact LeO.refl _)
      | (with_reducible exact LeO.none _)
      | (with_reducible refine LeO.ite ?_ ?_)
      | (with_reducible refine LeO.bind ?_ (fun _ => ?_))
      | exact ih0 _ _ _ _ _ _
      | exact ih1 _ _ _ _ _
      | exact ih2 _ _ _ _ _ _ _ _
      | exact impl_Valence.mono _ _ _ _
      | exact impl_burn.mono _ _ _ _ _
      | exact impl_fire.mono _ _ _ _ _ _
      | exact impl_inDebt.mono _ _ _
      | exact slices_Contains_int_int.mono _ _ _
      | exact LeO.none _
      | refine LeO.ite ?_ ?_
      | refine LeO.bind ?_ (fun _ => ?_)
theorem impl_reduce.mono : ∀ a0 a1 a2 a3 k, LeO (impl_reduce.f k a0 a1 a2 a3) (impl_reduce.f (k + 1) a0 a1 a2 a3) := by
  intro a0 a1 a2 a3 k; obtain ⟨ih0, ih1, ih2⟩ := impl_reduce.mono_l k; unfold impl_reduce.f
  repeat' first
      | (with_reducible exact ih0 _ _ _ _ _ _)
      | (with_reducible exact ih1 _ _ _ _ _)
      | (with_reducible exact ih2 _ _ _ _ _ _ _ _)
      | (with_reducible exact impl_Valence.mono _ _ _ _)
      | (with_reducible exact impl_burn.mono _ _ _ _ _)
      | (with_reducible exact impl_fire.mono _ _ _ _ _ _)
      | (with_reducible exact impl_inDebt.mono _ _ _)
      | (with_reducible exact slices_Contains_int_int.mono _ _ _)
      | (with_reducible exact LeO.refl _)
      | (with_reducible exact LeO.none _)
      | (with_reducible refine LeO.ite ?_ ?_)
      | (with_reducible refine LeO.bind ?_ (fun _ => ?_))
      | exact ih0 _ _ _ _ _ _
      | exact ih1 _ _ _ _ _
      | exact ih2 _ _ _ _ _ _ _ _
      | exact impl_Valence.mono _ _ _ _
      | exact impl_burn.mono _ _ _ _ _
      | exact impl_fire.mono _ _ _ _ _ _
      | exact impl_inDebt.mono _ _ _
      | exact slices_Contains_int_int.mono _ _ _
      | exact LeO.none _
      | refine LeO.ite ?_ ?_
      | refine LeO.bind ?_ (fun _ => ?_)
end Go.Proofs.Ytjecgolakaiddaa.P
end

section
namespace Go.Proofs.Ytjecgolakaiddaa.Cf
set_option linter.unusedVariables false
set_option linter.unusedSimpArgs false
open Go.RowKit Go.Proofs.YtjecgolakaiddaaW.PrintWords Go.Proofs.Ytjecgolakaiddaa.P
theorem specDebt_l0 (q : Int) (p : List Int) (hl : p.length ≤ 1048576) : ∀ (d i : Nat), i + d = p.length → Ep (fun k => spec_l05Debt.l0 k q p (p.length : Int) (i : Int)) (· = decide (0 ≤ debtF q p d i)) := by
  intro d
  induction d with
  | zero =>
    intro i hi
    refine Ep.up ?_
    simp only [spec_l05Debt.l0]
    exact Ep.neg (by omega) (Ep.now rfl)
  | succ d ih =>
    intro i hi
    refine Ep.up ?_
    simp only [spec_l05Debt.l0]
    refine Ep.pos (by omega) (Ep.pos (by omega) (Ep.pos (by omega) ?_))
    rw [wrap_succ (by omega)]
    unfold debtF
    refine Ep.ite (fun h => ?_) (fun h => ?_)
    · rw [if_pos h]
      exact ih (i + 1) (by omega)
    · rw [if_neg h]
      refine Ep.ite (fun h2 => Ep.now ?_) (fun h2 => ?_)
      · rw [if_pos h2]
        have : (0 : Int) ≤ i := by omega
        simp
      · rw [if_neg h2]
        exact ih (i + 1) (by omega)
theorem specDebt (p : List Int) (q : Int) (hl : p.length ≤ 1048576) : Ep (fun k => spec_l05Debt.f k p q) (· = decide (0 ≤ debtF q p p.length 0)) := by
  simp only [spec_l05Debt.f]
  exact specDebt_l0 q p hl p.length 0 (by omega)
theorem implDebt_l0 (q : Int) (p : List Int) (hl : p.length ≤ 1048576) : ∀ (d i : Nat), i + d = p.length → Ep (fun k => impl_inDebt.l0 k q p (p.length : Int) (i : Int)) (· = debtF q p d i) := by
  intro d
  induction d with
  | zero =>
    intro i hi
    refine Ep.up ?_
    simp only [impl_inDebt.l0]
    exact Ep.neg (by omega) (Ep.now rfl)
  | succ d ih =>
    intro i hi
    refine Ep.up ?_
    simp only [impl_inDebt.l0]
    refine Ep.pos (by omega) (Ep.pos (by omega) (Ep.pos (by omega) ?_))
    rw [wrap_succ (by omega)]
    unfold debtF
    refine Ep.ite (fun h => ?_) (fun h => ?_)
    · rw [if_pos h]
      exact ih (i + 1) (by omega)
    · rw [if_neg h]
      refine Ep.ite (fun h2 => Ep.now ?_) (fun h2 => ?_)
      · rw [if_pos h2]
      · rw [if_neg h2]
        exact ih (i + 1) (by omega)
theorem implDebt (p : List Int) (q : Int) (hl : p.length ≤ 1048576) : Ep (fun k => impl_inDebt.f k p q) (· = debtF q p p.length 0) := by
  simp only [impl_inDebt.f]
  exact implDebt_l0 q p hl p.length 0 (by omega)
/-- t has been borrowed. -/
def Owed (n : Nat) (es : List E) (q : Int) (d : List Int) (t : Int → Int) : Prop := Legal n es q (dual es (rd d)) t
theorem Owed.zero {n : Nat} {es : List E} {q : Int} {d : List Int} : Owed n es q d (fun _ => 0) := Legal.zero
structure Sec (n : Nat) (es : List E) (q : Int) (d : List Int) (t u : Int → Int) : Prop where
  ow : Owed n es q d t
  sets : Sets n es q (fun v => rd d v + lap es t v) u
theorem Sec.done {n : Nat} {es : List E} {q : Int} (g : Gr n es q) {d : List Int} {t u : Int → Int} (h : Sec n es q d t u) {s x : List Int} (hs : Rep n s (fun w => u w - t w)) (hx : Rep n x (fun w => rd d w + lap es t w - lap es u w)) {b : List Int} (hbu : Burn n es (rd x) q b) (hl : b.length = n) : Reduced n es q d (x, s) := by
  refine ⟨hx.1, hs.1, hbu.red g.hes g.hq hl (fun v v0 v1 v2 => ?_), ?_, fun v v0 v1 => ?_⟩
  · rw [hx.2 v v0 v1]
    exact h.sets.keeps v v0 v1 v2
  · have e : rd s q = u q - t q := hs.2 q g.hq.1 g.hq.2
    show rd s q = 0
    rw [e, h.sets.at_q, h.ow.nonneg.2]
    rfl
  · have e : rd x v = rd d v + lap es t v - lap es u v := hx.2 v v0 v1
    show rd x v = rd d v - lap es (rd s) v
    rw [e, lap_congr g.hes (t := fun w => u w - t w) hs.2, lap_sub]
    omega
end Go.Proofs.Ytjecgolakaiddaa.Cf
end

section
namespace Go.Proofs.Ytjecgolakaiddaa.P
open Go.RowKit Go.Proofs.YtjecgolakaiddaaW.PrintWords Go.Proofs.YtjecgolakaiddaaW.PrintLast Go.Proofs.YtjecgolakaiddaaW.PrintMore
attribute [local go_sem] max2_int min2_int max_two min_two max_three min_three max_four min_four
set_option linter.unusedVariables false
set_option linter.unusedSimpArgs false
def impl_sumOf.l0 : Nat → Int → List Int → Int → Int → Option (Int)
  | 0, _, _, _, _ => none
  | k + 1, x3, x6, x7, x8 => if x8 < x7 then (if 0 ≤ x8 then (if x8 < (x6.length : Int) then (impl_sumOf.l0 k (wrap64 (x3 + (rd x6 x8))) x6 x7 (wrap64 (x8 + 1))) else (none)) else (none)) else (some x3)
def impl_sumOf.f (k : Nat) (l0 : List Int) : Option (Int) := impl_sumOf.l0 k 0 l0 (l0.length : Int) 0
theorem impl_sumOf.mono_l : ∀ k, (∀ y0 y1 y2 y3, LeO (impl_sumOf.l0 k y0 y1 y2 y3) (impl_sumOf.l0 (k + 1) y0 y1 y2 y3))
  | 0 => fun _ _ _ _ r h => by simp [impl_sumOf.l0] at h
  | k + 1 => by
    have ih0 := impl_sumOf.mono_l k
    · intro y0 y1 y2 y3
      unfold impl_sumOf.l0
      repeat' first
      | (with_reducible exact ih0 _ _ _ _)
      | (with_reducible exact LeO.refl _)
      | (with_reducible exact LeO.none _)
      | (with_reducible refine LeO.ite ?_ ?_)
      | (with_reducible refine LeO.bind ?_ (fun _ => ?_))
      | exact ih0 _ _ _ _
      | exact LeO.none _
      | refine LeO.ite ?_ ?_
      | refine LeO.bind ?_ (fun _ => ?_)
theorem impl_sumOf.mono : ∀ a0 k, LeO (impl_sumOf.f k a0) (impl_sumOf.f (k + 1) a0) := by
  intro a0 k; have ih0 := impl_sumOf.mono_l k; unfold impl_sumOf.f
  repeat' first
      | (with_reducible exact ih0 _ _ _ _)
      | (with_reducible exact LeO.refl _)
      | (with_reducible exact LeO.none _)
      | (with_reducible refine LeO.ite ?_ ?_)
      | (with_reducible refine LeO.bind ?_ (fun _ => ?_))
      | exact ih0 _ _ _ _
      | exact LeO.none _
      | refine LeO.ite ?_ ?_
      | refine LeO.bind ?_ (fun _ => ?_)
end Go.Proofs.Ytjecgolakaiddaa.P
end

section
namespace Go.Proofs.Ytjecgolakaiddaa.P
open Go.RowKit Go.Proofs.YtjecgolakaiddaaW.PrintWords Go.Proofs.YtjecgolakaiddaaW.PrintLast Go.Proofs.YtjecgolakaiddaaW.PrintMore
attribute [local go_sem] max2_int min2_int max_two min_two max_three min_three max_four min_four
set_option linter.unusedVariables false
set_option linter.unusedSimpArgs false
def spec_DegreeOf.l0 : Nat → Int → List Int → Int → Int → Option (Int)
  | 0, _, _, _, _ => none
  | k + 1, x3, x6, x7, x8 => if x8 < x7 then (if 0 ≤ x8 then (if x8 < (x6.length : Int) then (spec_DegreeOf.l0 k (wrap64 (x3 + (rd x6 x8))) x6 x7 (wrap64 (x8 + 1))) else (none)) else (none)) else (some x3)
def spec_DegreeOf.f (k : Nat) (l0 : List Int) : Option (Int) := spec_DegreeOf.l0 k 0 l0 (l0.length : Int) 0
theorem spec_DegreeOf.mono_l : ∀ k, (∀ y0 y1 y2 y3, LeO (spec_DegreeOf.l0 k y0 y1 y2 y3) (spec_DegreeOf.l0 (k + 1) y0 y1 y2 y3))
  | 0 => fun _ _ _ _ r h => by simp [spec_DegreeOf.l0] at h
  | k + 1 => by
    have ih0 := spec_DegreeOf.mono_l k
    · intro y0 y1 y2 y3
      unfold spec_DegreeOf.l0
      repeat' first
      | (with_reducible exact ih0 _ _ _ _)
      | (with_reducible exact LeO.refl _)
      | (with_reducible exact LeO.none _)
      | (with_reducible refine LeO.ite ?_ ?_)
      | (with_reducible refine LeO.bind ?_ (fun _ => ?_))
      | exact ih0 _ _ _ _
      | exact LeO.none _
      | refine LeO.ite ?_ ?_
      | refine LeO.bind ?_ (fun _ => ?_)
theorem spec_DegreeOf.mono : ∀ a0 k, LeO (spec_DegreeOf.f k a0) (spec_DegreeOf.f (k + 1) a0) := by
  intro a0 k; have ih0 := spec_DegreeOf.mono_l k; unfold spec_DegreeOf.f
  repeat' first
      | (with_reducible exact ih0 _ _ _ _)
      | (with_reducible exact LeO.refl _)
      | (with_reducible exact LeO.none _)
      | (with_reducible refine LeO.ite ?_ ?_)
      | (with_reducible refine LeO.bind ?_ (fun _ => ?_))
      | exact ih0 _ _ _ _
      | exact LeO.none _
      | refine LeO.ite ?_ ?_
      | refine LeO.bind ?_ (fun _ => ?_)
end Go.Proofs.Ytjecgolakaiddaa.P
end

section
namespace Go.Proofs.Ytjecgolakaiddaa.Cf
set_option linter.unusedVariables false
set_option linter.unusedSimpArgs false
open Go.RowKit Go.Proofs.YtjecgolakaiddaaW.PrintWords Go.Proofs.Ytjecgolakaiddaa.P
/-- The numbers are no greater than a thousand million. -/
def Mod (l : List Int) : Prop := ∀ x ∈ l, -1000000000 ≤ x ∧ x ≤ 1000000000
end Go.Proofs.Ytjecgolakaiddaa.Cf
end

section
namespace Go.Proofs.Ytjecgolakaiddaa.P
open Go.RowKit Go.Proofs.YtjecgolakaiddaaW.PrintWords Go.Proofs.YtjecgolakaiddaaW.PrintLast Go.Proofs.YtjecgolakaiddaaW.PrintMore
attribute [local go_sem] max2_int min2_int max_two min_two max_three min_three max_four min_four
set_option linter.unusedVariables false
set_option linter.unusedSimpArgs false
def spec_Stabilize.f (k : Nat) (a0_0 : Int) (l0_1 : List (S70)) (l1 : List Int) (a2 : Int) : Option (List Int × List Int × Bool) := (spec_PileOk.f k a0_0 l0_1 l1 a2).bind fun t102 => (if t102 = true then ((spec_l10Settle.f k a0_0 l0_1 l1 a2).bind fun bt103 => (some (bt103.1, bt103.2, true))) else (some (([] : List Int), ([] : List Int), false)))
theorem spec_Stabilize.mono : ∀ a0 a1 a2 a3 k, LeO (spec_Stabilize.f k a0 a1 a2 a3) (spec_Stabilize.f (k + 1) a0 a1 a2 a3) := by
  intro a0 a1 a2 a3 k; unfold spec_Stabilize.f
  repeat' first
      | (with_reducible exact spec_PileOk.mono _ _ _ _ _)
      | (with_reducible exact spec_l10Settle.mono _ _ _ _ _)
      | (with_reducible exact LeO.refl _)
      | (with_reducible exact LeO.none _)
      | (with_reducible refine LeO.ite ?_ ?_)
      | (with_reducible refine LeO.bind ?_ (fun _ => ?_))
      | exact spec_PileOk.mono _ _ _ _ _
      | exact spec_l10Settle.mono _ _ _ _ _
      | exact LeO.none _
      | refine LeO.ite ?_ ?_
      | refine LeO.bind ?_ (fun _ => ?_)
end Go.Proofs.Ytjecgolakaiddaa.P
end

section
namespace Go.Proofs.Ytjecgolakaiddaa.P
open Go.RowKit Go.Proofs.YtjecgolakaiddaaW.PrintWords Go.Proofs.YtjecgolakaiddaaW.PrintLast Go.Proofs.YtjecgolakaiddaaW.PrintMore
attribute [local go_sem] max2_int min2_int max_two min_two max_three min_three max_four min_four
set_option linter.unusedVariables false
set_option linter.unusedSimpArgs false
def impl_Stabilize.f (k : Nat) (a0_0 : Int) (l0_1 : List (S70)) (l1 : List Int) (a2 : Int) : Option (List Int × List Int × Bool) := (impl_PileOk.f k a0_0 l0_1 l1 a2).bind fun t102 => (if t102 = true then ((impl_stabilize.f k a0_0 l0_1 l1 a2).bind fun bt103 => (some (bt103.1, bt103.2, true))) else (some (([] : List Int), ([] : List Int), false)))
theorem impl_Stabilize.mono : ∀ a0 a1 a2 a3 k, LeO (impl_Stabilize.f k a0 a1 a2 a3) (impl_Stabilize.f (k + 1) a0 a1 a2 a3) := by
  intro a0 a1 a2 a3 k; unfold impl_Stabilize.f
  repeat' first
      | (with_reducible exact impl_PileOk.mono _ _ _ _ _)
      | (with_reducible exact impl_stabilize.mono _ _ _ _ _)
      | (with_reducible exact LeO.refl _)
      | (with_reducible exact LeO.none _)
      | (with_reducible refine LeO.ite ?_ ?_)
      | (with_reducible refine LeO.bind ?_ (fun _ => ?_))
      | exact impl_PileOk.mono _ _ _ _ _
      | exact impl_stabilize.mono _ _ _ _ _
      | exact LeO.none _
      | refine LeO.ite ?_ ?_
      | refine LeO.bind ?_ (fun _ => ?_)
end Go.Proofs.Ytjecgolakaiddaa.P
end

section
namespace Go.Proofs.Ytjecgolakaiddaa.P
open Go.RowKit Go.Proofs.YtjecgolakaiddaaW.PrintWords Go.Proofs.YtjecgolakaiddaaW.PrintLast Go.Proofs.YtjecgolakaiddaaW.PrintMore
attribute [local go_sem] max2_int min2_int max_two min_two max_three min_three max_four min_four
set_option linter.unusedVariables false
set_option linter.unusedSimpArgs false
def spec_AvalancheSize.f (k : Nat) (a0_0 : Int) (l0_1 : List (S70)) (l1 : List Int) (a2 : Int) : Option (Int) := (spec_Stabilize.f k a0_0 l0_1 l1 a2).bind fun bt102 => (if bt102.2.2 = true then ((spec_DegreeOf.f k bt102.2.1).bind fun t109 => (some t109)) else (some (-1)))
theorem spec_AvalancheSize.mono : ∀ a0 a1 a2 a3 k, LeO (spec_AvalancheSize.f k a0 a1 a2 a3) (spec_AvalancheSize.f (k + 1) a0 a1 a2 a3) := by
  intro a0 a1 a2 a3 k; unfold spec_AvalancheSize.f
  repeat' first
      | (with_reducible exact spec_DegreeOf.mono _ _)
      | (with_reducible exact spec_Stabilize.mono _ _ _ _ _)
      | (with_reducible exact LeO.refl _)
      | (with_reducible exact LeO.none _)
      | (with_reducible refine LeO.ite ?_ ?_)
      | (with_reducible refine LeO.bind ?_ (fun _ => ?_))
      | exact spec_DegreeOf.mono _ _
      | exact spec_Stabilize.mono _ _ _ _ _
      | exact LeO.none _
      | refine LeO.ite ?_ ?_
      | refine LeO.bind ?_ (fun _ => ?_)
end Go.Proofs.Ytjecgolakaiddaa.P
end

section
namespace Go.Proofs.Ytjecgolakaiddaa.P
open Go.RowKit Go.Proofs.YtjecgolakaiddaaW.PrintWords Go.Proofs.YtjecgolakaiddaaW.PrintLast Go.Proofs.YtjecgolakaiddaaW.PrintMore
attribute [local go_sem] max2_int min2_int max_two min_two max_three min_three max_four min_four
set_option linter.unusedVariables false
set_option linter.unusedSimpArgs false
def impl_AvalancheSize.f (k : Nat) (a0_0 : Int) (l0_1 : List (S70)) (l1 : List Int) (a2 : Int) : Option (Int) := (impl_Stabilize.f k a0_0 l0_1 l1 a2).bind fun bt102 => (if bt102.2.2 = true then ((impl_sumOf.f k bt102.2.1).bind fun t109 => (some t109)) else (some (-1)))
theorem impl_AvalancheSize.mono : ∀ a0 a1 a2 a3 k, LeO (impl_AvalancheSize.f k a0 a1 a2 a3) (impl_AvalancheSize.f (k + 1) a0 a1 a2 a3) := by
  intro a0 a1 a2 a3 k; unfold impl_AvalancheSize.f
  repeat' first
      | (with_reducible exact impl_Stabilize.mono _ _ _ _ _)
      | (with_reducible exact impl_sumOf.mono _ _)
      | (with_reducible exact LeO.refl _)
      | (with_reducible exact LeO.none _)
      | (with_reducible refine LeO.ite ?_ ?_)
      | (with_reducible refine LeO.bind ?_ (fun _ => ?_))
      | exact impl_Stabilize.mono _ _ _ _ _
      | exact impl_sumOf.mono _ _
      | exact LeO.none _
      | refine LeO.ite ?_ ?_
      | refine LeO.bind ?_ (fun _ => ?_)
end Go.Proofs.Ytjecgolakaiddaa.P
end

section
namespace Go.Proofs.Ytjecgolakaiddaa.P
open Go.RowKit Go.Proofs.YtjecgolakaiddaaW.PrintWords Go.Proofs.YtjecgolakaiddaaW.PrintLast Go.Proofs.YtjecgolakaiddaaW.PrintMore
attribute [local go_sem] max2_int min2_int max_two min_two max_three min_three max_four min_four
set_option linter.unusedVariables false
set_option linter.unusedSimpArgs false
mutual
def spec_FullPile.j0 : Nat → Int → Bool → Int → List (S70) → Option (List Int)
  | 0, _, _, _, _ => none
  | k + 1, x1, x17, x102000, x102001 => if x17 = true then (some ([] : List Int)) else (spec_FullPile.l0 k x1 (([] : List Int)) 0 x102000 x102001)
def spec_FullPile.l0 : Nat → Int → List Int → Int → Int → List (S70) → Option (List Int)
  | 0, _, _, _, _, _ => none
  | k + 1, x1, x5, x6, x102000, x102001 => if x6 < x102000 then (if x6 = x1 then (if x5.length < 17592186044416 then (spec_FullPile.l0 k x1 (x5 ++ [0]) (wrap64 (x6 + 1)) x102000 x102001) else (none)) else ((spec_Valence.f k x102000 x102001 x6).bind fun t110 => (if x5.length < 17592186044416 then (spec_FullPile.l0 k x1 (x5 ++ [wrap64 (t110 - 1)]) (wrap64 (x6 + 1)) x102000 x102001) else (none)))) else (some x5)
end
def spec_FullPile.f (k : Nat) (a0_0 : Int) (l0_1 : List (S70)) (a1 : Int) : Option (List Int) := (spec_GraphOk.f k a0_0 l0_1).bind fun t102 => (if t102 = true then ((spec_l01In.f a1 0 (wrap64 (a0_0 - 1))).bind fun t103 => (spec_FullPile.j0 k a1 (!t103) a0_0 l0_1)) else (spec_FullPile.j0 k a1 true a0_0 l0_1))
theorem spec_FullPile.mono_l : ∀ k, (∀ y0 y1 y2 y3, LeO (spec_FullPile.j0 k y0 y1 y2 y3) (spec_FullPile.j0 (k + 1) y0 y1 y2 y3)) ∧ (∀ y0 y1 y2 y3 y4, LeO (spec_FullPile.l0 k y0 y1 y2 y3 y4) (spec_FullPile.l0 (k + 1) y0 y1 y2 y3 y4))
  | 0 => ⟨fun _ _ _ _ r h => by simp [spec_FullPile.j0] at h, fun _ _ _ _ _ r h => by simp [spec_FullPile.l0] at h⟩
  | k + 1 => by
    obtain ⟨ih0, ih1⟩ := spec_FullPile.mono_l k
    refine ⟨?_, ?_⟩
    · intro y0 y1 y2 y3
      unfold spec_FullPile.j0
      repeat' first
      | (with_reducible exact ih0 _ _ _ _)
      | (with_reducible exact ih1 _ _ _ _ _)
      | (with_reducible exact spec_GraphOk.mono _ _ _)
      | (with_reducible exact spec_Valence.mono _ _ _ _)
      | (with_reducible exact LeO.refl _)
      | (with_reducible exact LeO.none _)
      | (with_reducible refine LeO.ite ?_ ?_)
      | (with_reducible refine LeO.bind ?_ (fun _ => ?_))
      | exact ih0 _ _ _ _
      | exact ih1 _ _ _ _ _
      | exact spec_GraphOk.mono _ _ _
      | exact spec_Valence.mono _ _ _ _
      | exact LeO.none _
      | refine LeO.ite ?_ ?_
      | refine LeO.bind ?_ (fun _ => ?_)
    · intro y0 y1 y2 y3 y4
      unfold spec_FullPile.l0
      repeat' first
      | (with_reducible exact ih0 _ _ _ _)
      | (with_reducible exact ih1 _ _ _ _ _)
      | (with_reducible exact spec_GraphOk.mono _ _ _)
      | (with_reducible exact spec_Valence.mono _ _ _ _)
      | (with_reducible exact LeO.refl _)
      | (with_reducible exact LeO.none _)
      | (with_reducible refine LeO.ite ?_ ?_)
      | (with_reducible refine LeO.bind ?_ (fun _ => ?_))
      | exact ih0 _ _ _ _
      | exact ih1 _ _ _ _ _
      | exact spec_GraphOk.mono _ _ _
      | exact spec_Valence.mono _ _ _ _
      | exact LeO.none _
      | refine LeO.ite ?_ ?_
      | refine LeO.bind ?_ (fun _ => ?_)
theorem spec_FullPile.mono : ∀ a0 a1 a2 k, LeO (spec_FullPile.f k a0 a1 a2) (spec_FullPile.f (k + 1) a0 a1 a2) := by
  intro a0 a1 a2 k; obtain ⟨ih0, ih1⟩ := spec_FullPile.mono_l k; unfold spec_FullPile.f
  repeat' first
      | (with_reducible exact ih0 _ _ _ _)
      | (with_reducible exact ih1 _ _ _ _ _)
      | (with_reducible exact spec_GraphOk.mono _ _ _)
      | (with_reducible exact spec_Valence.mono _ _ _ _)
      | (with_reducible exact LeO.refl _)
      | (with_reducible exact LeO.none _)
      | (with_reducible refine LeO.ite ?_ ?_)
      | (with_reducible refine LeO.bind ?_ (fun _ => ?_))
      | exact ih0 _ _ _ _
      | exact ih1 _ _ _ _ _
      | exact spec_GraphOk.mono _ _ _
      | exact spec_Valence.mono _ _ _ _
      | exact LeO.none _
      | refine LeO.ite ?_ ?_
      | refine LeO.bind ?_ (fun _ => ?_)
end Go.Proofs.Ytjecgolakaiddaa.P
end

section
namespace Go.Proofs.Ytjecgolakaiddaa.P
open Go.RowKit Go.Proofs.YtjecgolakaiddaaW.PrintWords Go.Proofs.YtjecgolakaiddaaW.PrintLast Go.Proofs.YtjecgolakaiddaaW.PrintMore
attribute [local go_sem] max2_int min2_int max_two min_two max_three min_three max_four min_four
set_option linter.unusedVariables false
set_option linter.unusedSimpArgs false
def impl_FullPile.l0 : Nat → Int → List Int → Int → Int → Int → List (S70) → Option (List Int)
  | 0, _, _, _, _, _, _ => none
  | k + 1, x1, x5, x15, x16, x102000, x102001 => if x16 < x15 then (if x16 = x1 then (impl_FullPile.l0 k x1 x5 x15 (wrap64 (x16 + 1)) x102000 x102001) else ((impl_Valence.f k x102000 x102001 x16).bind fun t106 => (if 0 ≤ x16 then (if x16 < (x5.length : Int) then (impl_FullPile.l0 k x1 (x5.set (x16 : Int).toNat (wrap64 (t106 - 1))) x15 (wrap64 (x16 + 1)) x102000 x102001) else (none)) else (none)))) else (some x5)
def impl_FullPile.f (k : Nat) (a0_0 : Int) (l0_1 : List (S70)) (a1 : Int) : Option (List Int) := (impl_isVertex.f a0_0 l0_1 a1).bind fun t102 => (if t102 = true then (if 0 ≤ a0_0 then (if (a0_0 : Int).toNat ≤ 35184372088832 then ((some (List.replicate (a0_0 : Int).toNat 0 : List Int)).bind fun y103 => (impl_FullPile.l0 k a1 y103 (y103.length : Int) 0 a0_0 l0_1)) else (none)) else (none)) else (some ([] : List Int)))
theorem impl_FullPile.mono_l : ∀ k, (∀ y0 y1 y2 y3 y4 y5, LeO (impl_FullPile.l0 k y0 y1 y2 y3 y4 y5) (impl_FullPile.l0 (k + 1) y0 y1 y2 y3 y4 y5))
  | 0 => fun _ _ _ _ _ _ r h => by simp [impl_FullPile.l0] at h
  | k + 1 => by
    have ih0 := impl_FullPile.mono_l k
    · intro y0 y1 y2 y3 y4 y5
      unfold impl_FullPile.l0
      repeat' first
      | (with_reducible exact ih0 _ _ _ _ _ _)
      | (with_reducible exact impl_Valence.mono _ _ _ _)
      | (with_reducible exact LeO.refl _)
      | (with_reducible exact LeO.none _)
      | (with_reducible refine LeO.ite ?_ ?_)
      | (with_reducible refine LeO.bind ?_ (fun _ => ?_))
      | exact ih0 _ _ _ _ _ _
      | exact impl_Valence.mono _ _ _ _
      | exact LeO.none _
      | refine LeO.ite ?_ ?_
      | refine LeO.bind ?_ (fun _ => ?_)
theorem impl_FullPile.mono : ∀ a0 a1 a2 k, LeO (impl_FullPile.f k a0 a1 a2) (impl_FullPile.f (k + 1) a0 a1 a2) := by
  intro a0 a1 a2 k; have ih0 := impl_FullPile.mono_l k; unfold impl_FullPile.f
  repeat' first
      | (with_reducible exact ih0 _ _ _ _ _ _)
      | (with_reducible exact impl_Valence.mono _ _ _ _)
      | (with_reducible exact LeO.refl _)
      | (with_reducible exact LeO.none _)
      | (with_reducible refine LeO.ite ?_ ?_)
      | (with_reducible refine LeO.bind ?_ (fun _ => ?_))
      | exact ih0 _ _ _ _ _ _
      | exact impl_Valence.mono _ _ _ _
      | exact LeO.none _
      | refine LeO.ite ?_ ?_
      | refine LeO.bind ?_ (fun _ => ?_)
end Go.Proofs.Ytjecgolakaiddaa.P
end

section
namespace Go.Proofs.Ytjecgolakaiddaa.P
open Go.RowKit Go.Proofs.YtjecgolakaiddaaW.PrintWords Go.Proofs.YtjecgolakaiddaaW.PrintLast Go.Proofs.YtjecgolakaiddaaW.PrintMore
attribute [local go_sem] max2_int min2_int max_two min_two max_three min_three max_four min_four
set_option linter.unusedVariables false
set_option linter.unusedSimpArgs false
def impl_plus.l0 : Nat → List Int → List Int → Int → Int → Option (List Int)
  | 0, _, _, _, _ => none
  | k + 1, x1, x5, x10, x11 => if x11 < x10 then (if 0 ≤ x11 then (if x11 < (x5.length : Int) then (if x11 < (x1.length : Int) then (impl_plus.l0 k x1 (x5.set (x11 : Int).toNat (wrap64 ((rd x5 x11) + (rd x1 x11)))) x10 (wrap64 (x11 + 1))) else (none)) else (none)) else (none)) else (some x5)
def impl_plus.f (k : Nat) (l0 : List Int) (l1 : List Int) : Option (List Int) := (impl_copyInts.f l0).bind fun t101 => (impl_plus.l0 k l1 t101 (t101.length : Int) 0)
theorem impl_plus.mono_l : ∀ k, (∀ y0 y1 y2 y3, LeO (impl_plus.l0 k y0 y1 y2 y3) (impl_plus.l0 (k + 1) y0 y1 y2 y3))
  | 0 => fun _ _ _ _ r h => by simp [impl_plus.l0] at h
  | k + 1 => by
    have ih0 := impl_plus.mono_l k
    · intro y0 y1 y2 y3
      unfold impl_plus.l0
      repeat' first
      | (with_reducible exact ih0 _ _ _ _)
      | (with_reducible exact LeO.refl _)
      | (with_reducible exact LeO.none _)
      | (with_reducible refine LeO.ite ?_ ?_)
      | (with_reducible refine LeO.bind ?_ (fun _ => ?_))
      | exact ih0 _ _ _ _
      | exact LeO.none _
      | refine LeO.ite ?_ ?_
      | refine LeO.bind ?_ (fun _ => ?_)
theorem impl_plus.mono : ∀ a0 a1 k, LeO (impl_plus.f k a0 a1) (impl_plus.f (k + 1) a0 a1) := by
  intro a0 a1 k; have ih0 := impl_plus.mono_l k; unfold impl_plus.f
  repeat' first
      | (with_reducible exact ih0 _ _ _ _)
      | (with_reducible exact LeO.refl _)
      | (with_reducible exact LeO.none _)
      | (with_reducible refine LeO.ite ?_ ?_)
      | (with_reducible refine LeO.bind ?_ (fun _ => ?_))
      | exact ih0 _ _ _ _
      | exact LeO.none _
      | refine LeO.ite ?_ ?_
      | refine LeO.bind ?_ (fun _ => ?_)
end Go.Proofs.Ytjecgolakaiddaa.P
end

section
namespace Go.Proofs.Ytjecgolakaiddaa.P
open Go.RowKit Go.Proofs.YtjecgolakaiddaaW.PrintWords Go.Proofs.YtjecgolakaiddaaW.PrintLast Go.Proofs.YtjecgolakaiddaaW.PrintMore
attribute [local go_sem] max2_int min2_int max_two min_two max_three min_three max_four min_four
set_option linter.unusedVariables false
set_option linter.unusedSimpArgs false
def spec_AddDivisors.l0 : Nat → List Int → List Int → List Int → Int → Int → Option (List Int × Bool)
  | 0, _, _, _, _, _ => none
  | k + 1, x1, x6, x15, x16, x17 => if x17 < x16 then (if 0 ≤ x17 then (if x17 < (x15.length : Int) then (if x17 < (x1.length : Int) then (if x6.length < 17592186044416 then (spec_AddDivisors.l0 k x1 (x6 ++ [wrap64 ((rd x15 x17) + (rd x1 x17))]) x15 x16 (wrap64 (x17 + 1))) else (none)) else (none)) else (none)) else (none)) else (some (x6, true))
def spec_AddDivisors.f (k : Nat) (l0 : List Int) (l1 : List Int) : Option (List Int × Bool) := if (l0.length : Int) = (l1.length : Int) then (spec_AddDivisors.l0 k l1 (([] : List Int)) l0 (l0.length : Int) 0) else (some (([] : List Int), false))
theorem spec_AddDivisors.mono_l : ∀ k, (∀ y0 y1 y2 y3 y4, LeO (spec_AddDivisors.l0 k y0 y1 y2 y3 y4) (spec_AddDivisors.l0 (k + 1) y0 y1 y2 y3 y4))
  | 0 => fun _ _ _ _ _ r h => by simp [spec_AddDivisors.l0] at h
  | k + 1 => by
    have ih0 := spec_AddDivisors.mono_l k
    · intro y0 y1 y2 y3 y4
      unfold spec_AddDivisors.l0
      repeat' first
      | (with_reducible exact ih0 _ _ _ _ _)
      | (with_reducible exact LeO.refl _)
      | (with_reducible exact LeO.none _)
      | (with_reducible refine LeO.ite ?_ ?_)
      | (with_reducible refine LeO.bind ?_ (fun _ => ?_))
      | exact ih0 _ _ _ _ _
      | exact LeO.none _
      | refine LeO.ite ?_ ?_
      | refine LeO.bind ?_ (fun _ => ?_)
theorem spec_AddDivisors.mono : ∀ a0 a1 k, LeO (spec_AddDivisors.f k a0 a1) (spec_AddDivisors.f (k + 1) a0 a1) := by
  intro a0 a1 k; have ih0 := spec_AddDivisors.mono_l k; unfold spec_AddDivisors.f
  repeat' first
      | (with_reducible exact ih0 _ _ _ _ _)
      | (with_reducible exact LeO.refl _)
      | (with_reducible exact LeO.none _)
      | (with_reducible refine LeO.ite ?_ ?_)
      | (with_reducible refine LeO.bind ?_ (fun _ => ?_))
      | exact ih0 _ _ _ _ _
      | exact LeO.none _
      | refine LeO.ite ?_ ?_
      | refine LeO.bind ?_ (fun _ => ?_)
end Go.Proofs.Ytjecgolakaiddaa.P
end

section
namespace Go.Proofs.Ytjecgolakaiddaa.P
open Go.RowKit Go.Proofs.YtjecgolakaiddaaW.PrintWords Go.Proofs.YtjecgolakaiddaaW.PrintLast Go.Proofs.YtjecgolakaiddaaW.PrintMore
attribute [local go_sem] max2_int min2_int max_two min_two max_three min_three max_four min_four
set_option linter.unusedVariables false
set_option linter.unusedSimpArgs false
def spec_l07Minus.l0 : Nat → List Int → List Int → List Int → Int → Int → Option (List Int)
  | 0, _, _, _, _, _ => none
  | k + 1, x1, x5, x9, x10, x11 => if x11 < x10 then (if 0 ≤ x11 then (if x11 < (x9.length : Int) then (if x11 < (x1.length : Int) then (if x5.length < 17592186044416 then (spec_l07Minus.l0 k x1 (x5 ++ [wrap64 ((rd x9 x11) - (rd x1 x11))]) x9 x10 (wrap64 (x11 + 1))) else (none)) else (none)) else (none)) else (none)) else (some x5)
def spec_l07Minus.f (k : Nat) (l0 : List Int) (l1 : List Int) : Option (List Int) := spec_l07Minus.l0 k l1 (([] : List Int)) l0 (l0.length : Int) 0
theorem spec_l07Minus.mono_l : ∀ k, (∀ y0 y1 y2 y3 y4, LeO (spec_l07Minus.l0 k y0 y1 y2 y3 y4) (spec_l07Minus.l0 (k + 1) y0 y1 y2 y3 y4))
  | 0 => fun _ _ _ _ _ r h => by simp [spec_l07Minus.l0] at h
  | k + 1 => by
    have ih0 := spec_l07Minus.mono_l k
    · intro y0 y1 y2 y3 y4
      unfold spec_l07Minus.l0
      repeat' first
      | (with_reducible exact ih0 _ _ _ _ _)
      | (with_reducible exact LeO.refl _)
      | (with_reducible exact LeO.none _)
      | (with_reducible refine LeO.ite ?_ ?_)
      | (with_reducible refine LeO.bind ?_ (fun _ => ?_))
      | exact ih0 _ _ _ _ _
      | exact LeO.none _
      | refine LeO.ite ?_ ?_
      | refine LeO.bind ?_ (fun _ => ?_)
theorem spec_l07Minus.mono : ∀ a0 a1 k, LeO (spec_l07Minus.f k a0 a1) (spec_l07Minus.f (k + 1) a0 a1) := by
  intro a0 a1 k; have ih0 := spec_l07Minus.mono_l k; unfold spec_l07Minus.f
  repeat' first
      | (with_reducible exact ih0 _ _ _ _ _)
      | (with_reducible exact LeO.refl _)
      | (with_reducible exact LeO.none _)
      | (with_reducible refine LeO.ite ?_ ?_)
      | (with_reducible refine LeO.bind ?_ (fun _ => ?_))
      | exact ih0 _ _ _ _ _
      | exact LeO.none _
      | refine LeO.ite ?_ ?_
      | refine LeO.bind ?_ (fun _ => ?_)
end Go.Proofs.Ytjecgolakaiddaa.P
end

section
namespace Go.Proofs.Ytjecgolakaiddaa.P
open Go.RowKit Go.Proofs.YtjecgolakaiddaaW.PrintWords Go.Proofs.YtjecgolakaiddaaW.PrintLast Go.Proofs.YtjecgolakaiddaaW.PrintMore
attribute [local go_sem] max2_int min2_int max_two min_two max_three min_three max_four min_four
set_option linter.unusedVariables false
set_option linter.unusedSimpArgs false
def impl_NegateDivisor.l0 : Nat → List Int → Int → Int → Option (List Int)
  | 0, _, _, _ => none
  | k + 1, x3, x8, x9 => if x9 < x8 then (if 0 ≤ x9 then (if x9 < (x3.length : Int) then (impl_NegateDivisor.l0 k (x3.set (x9 : Int).toNat (wrap64 (-(rd x3 x9)))) x8 (wrap64 (x9 + 1))) else (none)) else (none)) else (some x3)
def impl_NegateDivisor.f (k : Nat) (l0 : List Int) : Option (List Int) := (impl_copyInts.f l0).bind fun t101 => (impl_NegateDivisor.l0 k t101 (t101.length : Int) 0)
theorem impl_NegateDivisor.mono_l : ∀ k, (∀ y0 y1 y2, LeO (impl_NegateDivisor.l0 k y0 y1 y2) (impl_NegateDivisor.l0 (k + 1) y0 y1 y2))
  | 0 => fun _ _ _ r h => by simp [impl_NegateDivisor.l0] at h
  | k + 1 => by
    have ih0 := impl_NegateDivisor.mono_l k
    · intro y0 y1 y2
      unfold impl_NegateDivisor.l0
      repeat' first
      | (with_reducible exact ih0 _ _ _)
      | (with_reducible exact LeO.refl _)
      | (with_reducible exact LeO.none _)
      | (with_reducible refine LeO.ite ?_ ?_)
      | (with_reducible refine LeO.bind ?_ (fun _ => ?_))
      | exact ih0 _ _ _
      | exact LeO.none _
      | refine LeO.ite ?_ ?_
      | refine LeO.bind ?_ (fun _ => ?_)
theorem impl_NegateDivisor.mono : ∀ a0 k, LeO (impl_NegateDivisor.f k a0) (impl_NegateDivisor.f (k + 1) a0) := by
  intro a0 k; have ih0 := impl_NegateDivisor.mono_l k; unfold impl_NegateDivisor.f
  repeat' first
      | (with_reducible exact ih0 _ _ _)
      | (with_reducible exact LeO.refl _)
      | (with_reducible exact LeO.none _)
      | (with_reducible refine LeO.ite ?_ ?_)
      | (with_reducible refine LeO.bind ?_ (fun _ => ?_))
      | exact ih0 _ _ _
      | exact LeO.none _
      | refine LeO.ite ?_ ?_
      | refine LeO.bind ?_ (fun _ => ?_)
end Go.Proofs.Ytjecgolakaiddaa.P
end

section
namespace Go.Proofs.Ytjecgolakaiddaa.P
open Go.RowKit Go.Proofs.YtjecgolakaiddaaW.PrintWords Go.Proofs.YtjecgolakaiddaaW.PrintLast Go.Proofs.YtjecgolakaiddaaW.PrintMore
attribute [local go_sem] max2_int min2_int max_two min_two max_three min_three max_four min_four
set_option linter.unusedVariables false
set_option linter.unusedSimpArgs false
def spec_NegateDivisor.l0 : Nat → List Int → List Int → Int → Int → Option (List Int)
  | 0, _, _, _, _ => none
  | k + 1, x3, x7, x8, x9 => if x9 < x8 then (if 0 ≤ x9 then (if x9 < (x7.length : Int) then (if x3.length < 17592186044416 then (spec_NegateDivisor.l0 k (x3 ++ [wrap64 (-(rd x7 x9))]) x7 x8 (wrap64 (x9 + 1))) else (none)) else (none)) else (none)) else (some x3)
def spec_NegateDivisor.f (k : Nat) (l0 : List Int) : Option (List Int) := spec_NegateDivisor.l0 k (([] : List Int)) l0 (l0.length : Int) 0
theorem spec_NegateDivisor.mono_l : ∀ k, (∀ y0 y1 y2 y3, LeO (spec_NegateDivisor.l0 k y0 y1 y2 y3) (spec_NegateDivisor.l0 (k + 1) y0 y1 y2 y3))
  | 0 => fun _ _ _ _ r h => by simp [spec_NegateDivisor.l0] at h
  | k + 1 => by
    have ih0 := spec_NegateDivisor.mono_l k
    · intro y0 y1 y2 y3
      unfold spec_NegateDivisor.l0
      repeat' first
      | (with_reducible exact ih0 _ _ _ _)
      | (with_reducible exact LeO.refl _)
      | (with_reducible exact LeO.none _)
      | (with_reducible refine LeO.ite ?_ ?_)
      | (with_reducible refine LeO.bind ?_ (fun _ => ?_))
      | exact ih0 _ _ _ _
      | exact LeO.none _
      | refine LeO.ite ?_ ?_
      | refine LeO.bind ?_ (fun _ => ?_)
theorem spec_NegateDivisor.mono : ∀ a0 k, LeO (spec_NegateDivisor.f k a0) (spec_NegateDivisor.f (k + 1) a0) := by
  intro a0 k; have ih0 := spec_NegateDivisor.mono_l k; unfold spec_NegateDivisor.f
  repeat' first
      | (with_reducible exact ih0 _ _ _ _)
      | (with_reducible exact LeO.refl _)
      | (with_reducible exact LeO.none _)
      | (with_reducible refine LeO.ite ?_ ?_)
      | (with_reducible refine LeO.bind ?_ (fun _ => ?_))
      | exact ih0 _ _ _ _
      | exact LeO.none _
      | refine LeO.ite ?_ ?_
      | refine LeO.bind ?_ (fun _ => ?_)
end Go.Proofs.Ytjecgolakaiddaa.P
end

section
namespace Go.Proofs.Ytjecgolakaiddaa.P
open Go.RowKit Go.Proofs.YtjecgolakaiddaaW.PrintWords Go.Proofs.YtjecgolakaiddaaW.PrintLast Go.Proofs.YtjecgolakaiddaaW.PrintMore
attribute [local go_sem] max2_int min2_int max_two min_two max_three min_three max_four min_four
set_option linter.unusedVariables false
set_option linter.unusedSimpArgs false
def slices_Equal_int_int.l0 : Nat → List Int → List Int → Int → Int → Option (Bool)
  | 0, _, _, _, _ => none
  | k + 1, x0, x1, x12, x13 => if x13 < x12 then (if 0 ≤ x13 then (if x13 < (x0.length : Int) then (if x13 < (x1.length : Int) then (if (rd x0 x13) = (rd x1 x13) then (slices_Equal_int_int.l0 k x0 x1 x12 (wrap64 (x13 + 1))) else (some false)) else (none)) else (none)) else (none)) else (some true)
def slices_Equal_int_int.f (k : Nat) (l0 : List Int) (l1 : List Int) : Option (Bool) := if (l0.length : Int) = (l1.length : Int) then (slices_Equal_int_int.l0 k l0 l1 (l0.length : Int) 0) else (some false)
theorem slices_Equal_int_int.mono_l : ∀ k, (∀ y0 y1 y2 y3, LeO (slices_Equal_int_int.l0 k y0 y1 y2 y3) (slices_Equal_int_int.l0 (k + 1) y0 y1 y2 y3))
  | 0 => fun _ _ _ _ r h => by simp [slices_Equal_int_int.l0] at h
  | k + 1 => by
    have ih0 := slices_Equal_int_int.mono_l k
    · intro y0 y1 y2 y3
      unfold slices_Equal_int_int.l0
      repeat' first
      | (with_reducible exact ih0 _ _ _ _)
      | (with_reducible exact LeO.refl _)
      | (with_reducible exact LeO.none _)
      | (with_reducible refine LeO.ite ?_ ?_)
      | (with_reducible refine LeO.bind ?_ (fun _ => ?_))
      | exact ih0 _ _ _ _
      | exact LeO.none _
      | refine LeO.ite ?_ ?_
      | refine LeO.bind ?_ (fun _ => ?_)
theorem slices_Equal_int_int.mono : ∀ a0 a1 k, LeO (slices_Equal_int_int.f k a0 a1) (slices_Equal_int_int.f (k + 1) a0 a1) := by
  intro a0 a1 k; have ih0 := slices_Equal_int_int.mono_l k; unfold slices_Equal_int_int.f
  repeat' first
      | (with_reducible exact ih0 _ _ _ _)
      | (with_reducible exact LeO.refl _)
      | (with_reducible exact LeO.none _)
      | (with_reducible refine LeO.ite ?_ ?_)
      | (with_reducible refine LeO.bind ?_ (fun _ => ?_))
      | exact ih0 _ _ _ _
      | exact LeO.none _
      | refine LeO.ite ?_ ?_
      | refine LeO.bind ?_ (fun _ => ?_)
end Go.Proofs.Ytjecgolakaiddaa.P
end

section
namespace Go.Proofs.Ytjecgolakaiddaa.P
open Go.RowKit Go.Proofs.YtjecgolakaiddaaW.PrintWords Go.Proofs.YtjecgolakaiddaaW.PrintLast Go.Proofs.YtjecgolakaiddaaW.PrintMore
attribute [local go_sem] max2_int min2_int max_two min_two max_three min_three max_four min_four
set_option linter.unusedVariables false
set_option linter.unusedSimpArgs false
def impl_SameDivisor.f (k : Nat) (l0 : List Int) (l1 : List Int) : Option (Bool) := (slices_Equal_int_int.f k l0 l1).bind fun t101 => (some t101)
theorem impl_SameDivisor.mono : ∀ a0 a1 k, LeO (impl_SameDivisor.f k a0 a1) (impl_SameDivisor.f (k + 1) a0 a1) := by
  intro a0 a1 k; unfold impl_SameDivisor.f
  repeat' first
      | (with_reducible exact slices_Equal_int_int.mono _ _ _)
      | (with_reducible exact LeO.refl _)
      | (with_reducible exact LeO.none _)
      | (with_reducible refine LeO.ite ?_ ?_)
      | (with_reducible refine LeO.bind ?_ (fun _ => ?_))
      | exact slices_Equal_int_int.mono _ _ _
      | exact LeO.none _
      | refine LeO.ite ?_ ?_
      | refine LeO.bind ?_ (fun _ => ?_)
end Go.Proofs.Ytjecgolakaiddaa.P
end

section
namespace Go.Proofs.Ytjecgolakaiddaa.P
open Go.RowKit Go.Proofs.YtjecgolakaiddaaW.PrintWords Go.Proofs.YtjecgolakaiddaaW.PrintLast Go.Proofs.YtjecgolakaiddaaW.PrintMore
attribute [local go_sem] max2_int min2_int max_two min_two max_three min_three max_four min_four
set_option linter.unusedVariables false
set_option linter.unusedSimpArgs false
def spec_SameDivisor.l0 : Nat → List Int → List Int → Int → Int → Option (Bool)
  | 0, _, _, _, _ => none
  | k + 1, x1, x12, x13, x14 => if x14 < x13 then (if 0 ≤ x14 then (if x14 < (x12.length : Int) then (if x14 < (x1.length : Int) then (if (rd x12 x14) = (rd x1 x14) then (spec_SameDivisor.l0 k x1 x12 x13 (wrap64 (x14 + 1))) else (some false)) else (none)) else (none)) else (none)) else (some true)
def spec_SameDivisor.f (k : Nat) (l0 : List Int) (l1 : List Int) : Option (Bool) := if (l0.length : Int) = (l1.length : Int) then (spec_SameDivisor.l0 k l1 l0 (l0.length : Int) 0) else (some false)
theorem spec_SameDivisor.mono_l : ∀ k, (∀ y0 y1 y2 y3, LeO (spec_SameDivisor.l0 k y0 y1 y2 y3) (spec_SameDivisor.l0 (k + 1) y0 y1 y2 y3))
  | 0 => fun _ _ _ _ r h => by simp [spec_SameDivisor.l0] at h
  | k + 1 => by
    have ih0 := spec_SameDivisor.mono_l k
    · intro y0 y1 y2 y3
      unfold spec_SameDivisor.l0
      repeat' first
      | (with_reducible exact ih0 _ _ _ _)
      | (with_reducible exact LeO.refl _)
      | (with_reducible exact LeO.none _)
      | (with_reducible refine LeO.ite ?_ ?_)
      | (with_reducible refine LeO.bind ?_ (fun _ => ?_))
      | exact ih0 _ _ _ _
      | exact LeO.none _
      | refine LeO.ite ?_ ?_
      | refine LeO.bind ?_ (fun _ => ?_)
theorem spec_SameDivisor.mono : ∀ a0 a1 k, LeO (spec_SameDivisor.f k a0 a1) (spec_SameDivisor.f (k + 1) a0 a1) := by
  intro a0 a1 k; have ih0 := spec_SameDivisor.mono_l k; unfold spec_SameDivisor.f
  repeat' first
      | (with_reducible exact ih0 _ _ _ _)
      | (with_reducible exact LeO.refl _)
      | (with_reducible exact LeO.none _)
      | (with_reducible refine LeO.ite ?_ ?_)
      | (with_reducible refine LeO.bind ?_ (fun _ => ?_))
      | exact ih0 _ _ _ _
      | exact LeO.none _
      | refine LeO.ite ?_ ?_
      | refine LeO.bind ?_ (fun _ => ?_)
end Go.Proofs.Ytjecgolakaiddaa.P
end

section
namespace Go.Proofs.Ytjecgolakaiddaa.P
open Go.RowKit Go.Proofs.YtjecgolakaiddaaW.PrintWords Go.Proofs.YtjecgolakaiddaaW.PrintLast Go.Proofs.YtjecgolakaiddaaW.PrintMore
attribute [local go_sem] max2_int min2_int max_two min_two max_three min_three max_four min_four
set_option linter.unusedVariables false
set_option linter.unusedSimpArgs false
def impl_oneAt.f (a0_0 : Int) (l0_1 : List (S70)) (a1 : Int) (a2 : Int) : Option (List Int) := if 0 ≤ a0_0 then (if (a0_0 : Int).toNat ≤ 35184372088832 then ((some (List.replicate (a0_0 : Int).toNat 0 : List Int)).bind fun y102 => (if 0 ≤ a1 then (if a1 < (y102.length : Int) then (some (y102.set (a1 : Int).toNat a2)) else (none)) else (none))) else (none)) else (none)
end Go.Proofs.Ytjecgolakaiddaa.P
end

section
namespace Go.Proofs.Ytjecgolakaiddaa.P
open Go.RowKit Go.Proofs.YtjecgolakaiddaaW.PrintWords Go.Proofs.YtjecgolakaiddaaW.PrintLast Go.Proofs.YtjecgolakaiddaaW.PrintMore
attribute [local go_sem] max2_int min2_int max_two min_two max_three min_three max_four min_four
set_option linter.unusedVariables false
set_option linter.unusedSimpArgs false
def spec_SumOfPiles.j0 : Nat → List Int → List Int → Int → Bool → Int → List (S70) → Option (List Int × Bool)
  | 0, _, _, _, _, _, _ => none
  | k + 1, x1, x2, x3, x26, x102000, x102001 => if x26 = true then (some (([] : List Int), false)) else ((spec_AddDivisors.f k x1 x2).bind fun bt104 => ((spec_Stabilize.f k x102000 x102001 bt104.1 x3).bind fun bt108 => (some (bt108.1, bt108.2.2))))
def spec_SumOfPiles.f (k : Nat) (a0_0 : Int) (l0_1 : List (S70)) (l1 : List Int) (l2 : List Int) (a3 : Int) : Option (List Int × Bool) := (spec_PileOk.f k a0_0 l0_1 l1 a3).bind fun t102 => (if t102 = true then ((spec_PileOk.f k a0_0 l0_1 l2 a3).bind fun t103 => (spec_SumOfPiles.j0 k l1 l2 a3 (!t103) a0_0 l0_1)) else (spec_SumOfPiles.j0 k l1 l2 a3 true a0_0 l0_1))
theorem spec_SumOfPiles.mono_l : ∀ k, (∀ y0 y1 y2 y3 y4 y5, LeO (spec_SumOfPiles.j0 k y0 y1 y2 y3 y4 y5) (spec_SumOfPiles.j0 (k + 1) y0 y1 y2 y3 y4 y5))
  | 0 => fun _ _ _ _ _ _ r h => by simp [spec_SumOfPiles.j0] at h
  | k + 1 => by
    have ih0 := spec_SumOfPiles.mono_l k
    · intro y0 y1 y2 y3 y4 y5
      unfold spec_SumOfPiles.j0
      repeat' first
      | (with_reducible exact ih0 _ _ _ _ _ _)
      | (with_reducible exact spec_AddDivisors.mono _ _ _)
      | (with_reducible exact spec_PileOk.mono _ _ _ _ _)
      | (with_reducible exact spec_Stabilize.mono _ _ _ _ _)
      | (with_reducible exact LeO.refl _)
      | (with_reducible exact LeO.none _)
      | (with_reducible refine LeO.ite ?_ ?_)
      | (with_reducible refine LeO.bind ?_ (fun _ => ?_))
      | exact ih0 _ _ _ _ _ _
      | exact spec_AddDivisors.mono _ _ _
      | exact spec_PileOk.mono _ _ _ _ _
      | exact spec_Stabilize.mono _ _ _ _ _
      | exact LeO.none _
      | refine LeO.ite ?_ ?_
      | refine LeO.bind ?_ (fun _ => ?_)
theorem spec_SumOfPiles.mono : ∀ a0 a1 a2 a3 a4 k, LeO (spec_SumOfPiles.f k a0 a1 a2 a3 a4) (spec_SumOfPiles.f (k + 1) a0 a1 a2 a3 a4) := by
  intro a0 a1 a2 a3 a4 k; have ih0 := spec_SumOfPiles.mono_l k; unfold spec_SumOfPiles.f
  repeat' first
      | (with_reducible exact ih0 _ _ _ _ _ _)
      | (with_reducible exact spec_AddDivisors.mono _ _ _)
      | (with_reducible exact spec_PileOk.mono _ _ _ _ _)
      | (with_reducible exact spec_Stabilize.mono _ _ _ _ _)
      | (with_reducible exact LeO.refl _)
      | (with_reducible exact LeO.none _)
      | (with_reducible refine LeO.ite ?_ ?_)
      | (with_reducible refine LeO.bind ?_ (fun _ => ?_))
      | exact ih0 _ _ _ _ _ _
      | exact spec_AddDivisors.mono _ _ _
      | exact spec_PileOk.mono _ _ _ _ _
      | exact spec_Stabilize.mono _ _ _ _ _
      | exact LeO.none _
      | refine LeO.ite ?_ ?_
      | refine LeO.bind ?_ (fun _ => ?_)
end Go.Proofs.Ytjecgolakaiddaa.P
end

section
namespace Go.Proofs.Ytjecgolakaiddaa.P
open Go.RowKit Go.Proofs.YtjecgolakaiddaaW.PrintWords Go.Proofs.YtjecgolakaiddaaW.PrintLast Go.Proofs.YtjecgolakaiddaaW.PrintMore
attribute [local go_sem] max2_int min2_int max_two min_two max_three min_three max_four min_four
set_option linter.unusedVariables false
set_option linter.unusedSimpArgs false
def impl_SumOfPiles.j0 : Nat → List Int → List Int → Int → Bool → Int → List (S70) → Option (List Int × Bool)
  | 0, _, _, _, _, _, _ => none
  | k + 1, x1, x2, x3, x32, x102000, x102001 => if x32 = true then (some (([] : List Int), false)) else ((impl_plus.f k x1 x2).bind fun t108 => ((impl_stabilize.f k x102000 x102001 t108 x3).bind fun bt111 => (some (bt111.1, true))))
def impl_SumOfPiles.f (k : Nat) (a0_0 : Int) (l0_1 : List (S70)) (l1 : List Int) (l2 : List Int) (a3 : Int) : Option (List Int × Bool) := (impl_PileOk.f k a0_0 l0_1 l1 a3).bind fun t102 => (if t102 = true then ((impl_PileOk.f k a0_0 l0_1 l2 a3).bind fun t103 => (if t103 = true then ((impl_plus.f k l1 l2).bind fun t104 => ((impl_PileOk.f k a0_0 l0_1 t104 a3).bind fun t107 => (impl_SumOfPiles.j0 k l1 l2 a3 (!t107) a0_0 l0_1))) else (impl_SumOfPiles.j0 k l1 l2 a3 true a0_0 l0_1))) else (impl_SumOfPiles.j0 k l1 l2 a3 true a0_0 l0_1))
theorem impl_SumOfPiles.mono_l : ∀ k, (∀ y0 y1 y2 y3 y4 y5, LeO (impl_SumOfPiles.j0 k y0 y1 y2 y3 y4 y5) (impl_SumOfPiles.j0 (k + 1) y0 y1 y2 y3 y4 y5))
  | 0 => fun _ _ _ _ _ _ r h => by simp [impl_SumOfPiles.j0] at h
  | k + 1 => by
    have ih0 := impl_SumOfPiles.mono_l k
    · intro y0 y1 y2 y3 y4 y5
      unfold impl_SumOfPiles.j0
      repeat' first
      | (with_reducible exact ih0 _ _ _ _ _ _)
      | (with_reducible exact impl_PileOk.mono _ _ _ _ _)
      | (with_reducible exact impl_plus.mono _ _ _)
      | (with_reducible exact impl_stabilize.mono _ _ _ _ _)
      | (with_reducible exact LeO.refl _)
      | (with_reducible exact LeO.none _)
      | (with_reducible refine LeO.ite ?_ ?_)
      | (with_reducible refine LeO.bind ?_ (fun _ => ?_))
      | exact ih0 _ _ _ _ _ _
      | exact impl_PileOk.mono _ _ _ _ _
      | exact impl_plus.mono _ _ _
      | exact impl_stabilize.mono _ _ _ _ _
      | exact LeO.none _
      | refine LeO.ite ?_ ?_
      | refine LeO.bind ?_ (fun _ => ?_)
theorem impl_SumOfPiles.mono : ∀ a0 a1 a2 a3 a4 k, LeO (impl_SumOfPiles.f k a0 a1 a2 a3 a4) (impl_SumOfPiles.f (k + 1) a0 a1 a2 a3 a4) := by
  intro a0 a1 a2 a3 a4 k; have ih0 := impl_SumOfPiles.mono_l k; unfold impl_SumOfPiles.f
  repeat' first
      | (with_reducible exact ih0 _ _ _ _ _ _)
      | (with_reducible exact impl_PileOk.mono _ _ _ _ _)
      | (with_reducible exact impl_plus.mono _ _ _)
      | (with_reducible exact impl_stabilize.mono _ _ _ _ _)
      | (with_reducible exact LeO.refl _)
      | (with_reducible exact LeO.none _)
      | (with_reducible refine LeO.ite ?_ ?_)
      | (with_reducible refine LeO.bind ?_ (fun _ => ?_))
      | exact ih0 _ _ _ _ _ _
      | exact impl_PileOk.mono _ _ _ _ _
      | exact impl_plus.mono _ _ _
      | exact impl_stabilize.mono _ _ _ _ _
      | exact LeO.none _
      | refine LeO.ite ?_ ?_
      | refine LeO.bind ?_ (fun _ => ?_)
end Go.Proofs.Ytjecgolakaiddaa.P
end

section
namespace Go.Proofs.Ytjecgolakaiddaa.P
open Go.RowKit Go.Proofs.YtjecgolakaiddaaW.PrintWords Go.Proofs.YtjecgolakaiddaaW.PrintLast Go.Proofs.YtjecgolakaiddaaW.PrintMore
attribute [local go_sem] max2_int min2_int max_two min_two max_three min_three max_four min_four
set_option linter.unusedVariables false
set_option linter.unusedSimpArgs false
def spec_l11Lit.l0 : Nat → Int → List Int → List Int → Int → Int → Int → List (S70) → Option (List Int)
  | 0, _, _, _, _, _, _, _ => none
  | k + 1, x2, x7, x11, x12, x13, x102000, x102001 => if x13 < x12 then (if 0 ≤ x13 then (if x13 < (x11.length : Int) then ((spec_Multiplicity.f k x102000 x102001 x2 x13).bind fun t106 => (if x7.length < 17592186044416 then (spec_l11Lit.l0 k x2 (x7 ++ [wrap64 ((rd x11 x13) + t106)]) x11 x12 (wrap64 (x13 + 1)) x102000 x102001) else (none))) else (none)) else (none)) else (some x7)
def spec_l11Lit.f (k : Nat) (a0_0 : Int) (l0_1 : List (S70)) (l1 : List Int) (a2 : Int) : Option (List Int) := spec_l11Lit.l0 k a2 (([] : List Int)) l1 (l1.length : Int) 0 a0_0 l0_1
theorem spec_l11Lit.mono_l : ∀ k, (∀ y0 y1 y2 y3 y4 y5 y6, LeO (spec_l11Lit.l0 k y0 y1 y2 y3 y4 y5 y6) (spec_l11Lit.l0 (k + 1) y0 y1 y2 y3 y4 y5 y6))
  | 0 => fun _ _ _ _ _ _ _ r h => by simp [spec_l11Lit.l0] at h
  | k + 1 => by
    have ih0 := spec_l11Lit.mono_l k
    · intro y0 y1 y2 y3 y4 y5 y6
      unfold spec_l11Lit.l0
      repeat' first
      | (with_reducible exact ih0 _ _ _ _ _ _ _)
      | (with_reducible exact spec_Multiplicity.mono _ _ _ _ _)
      | (with_reducible exact LeO.refl _)
      | (with_reducible exact LeO.none _)
      | (with_reducible refine LeO.ite ?_ ?_)
      | (with_reducible refine LeO.bind ?_ (fun _ => ?_))
      | exact ih0 _ _ _ _ _ _ _
      | exact spec_Multiplicity.mono _ _ _ _ _
      | exact LeO.none _
      | refine LeO.ite ?_ ?_
      | refine LeO.bind ?_ (fun _ => ?_)
theorem spec_l11Lit.mono : ∀ a0 a1 a2 a3 k, LeO (spec_l11Lit.f k a0 a1 a2 a3) (spec_l11Lit.f (k + 1) a0 a1 a2 a3) := by
  intro a0 a1 a2 a3 k; have ih0 := spec_l11Lit.mono_l k; unfold spec_l11Lit.f
  repeat' first
      | (with_reducible exact ih0 _ _ _ _ _ _ _)
      | (with_reducible exact spec_Multiplicity.mono _ _ _ _ _)
      | (with_reducible exact LeO.refl _)
      | (with_reducible exact LeO.none _)
      | (with_reducible refine LeO.ite ?_ ?_)
      | (with_reducible refine LeO.bind ?_ (fun _ => ?_))
      | exact ih0 _ _ _ _ _ _ _
      | exact spec_Multiplicity.mono _ _ _ _ _
      | exact LeO.none _
      | refine LeO.ite ?_ ?_
      | refine LeO.bind ?_ (fun _ => ?_)
end Go.Proofs.Ytjecgolakaiddaa.P
end

section
namespace Go.Proofs.Ytjecgolakaiddaa.P
open Go.RowKit Go.Proofs.YtjecgolakaiddaaW.PrintWords Go.Proofs.YtjecgolakaiddaaW.PrintLast Go.Proofs.YtjecgolakaiddaaW.PrintMore
attribute [local go_sem] max2_int min2_int max_two min_two max_three min_three max_four min_four
set_option linter.unusedVariables false
set_option linter.unusedSimpArgs false
def spec_IsRecurrent.l0 : Nat → List Int → Int → List Int → List Int → Int → Int → Option (Bool)
  | 0, _, _, _, _, _, _ => none
  | k + 1, x1, x2, x7, x26, x27, x28 => if x28 < x27 then (if 0 ≤ x28 then (if x28 < (x26.length : Int) then (if x28 = x2 then (spec_IsRecurrent.l0 k x1 x2 x7 x26 x27 (wrap64 (x28 + 1))) else (if (rd x26 x28) = 1 then (spec_IsRecurrent.l0 k x1 x2 x7 x26 x27 (wrap64 (x28 + 1))) else (some false))) else (none)) else (none)) else ((spec_SameDivisor.f k x7 x1).bind fun t113 => (some t113))
def spec_IsRecurrent.f (k : Nat) (a0_0 : Int) (l0_1 : List (S70)) (l1 : List Int) (a2 : Int) : Option (Bool) := (spec_IsStable.f k a0_0 l0_1 l1 a2).bind fun t102 => (if t102 = true then ((spec_l11Lit.f k a0_0 l0_1 l1 a2).bind fun t103 => ((spec_l10Settle.f k a0_0 l0_1 t103 a2).bind fun bt106 => (spec_IsRecurrent.l0 k l1 a2 bt106.1 bt106.2 (bt106.2.length : Int) 0))) else (some false))
theorem spec_IsRecurrent.mono_l : ∀ k, (∀ y0 y1 y2 y3 y4 y5, LeO (spec_IsRecurrent.l0 k y0 y1 y2 y3 y4 y5) (spec_IsRecurrent.l0 (k + 1) y0 y1 y2 y3 y4 y5))
  | 0 => fun _ _ _ _ _ _ r h => by simp [spec_IsRecurrent.l0] at h
  | k + 1 => by
    have ih0 := spec_IsRecurrent.mono_l k
    · intro y0 y1 y2 y3 y4 y5
      unfold spec_IsRecurrent.l0
      repeat' first
      | (with_reducible exact ih0 _ _ _ _ _ _)
      | (with_reducible exact spec_IsStable.mono _ _ _ _ _)
      | (with_reducible exact spec_SameDivisor.mono _ _ _)
      | (with_reducible exact spec_l10Settle.mono _ _ _ _ _)
      | (with_reducible exact spec_l11Lit.mono _ _ _ _ _)
      | (with_reducible exact LeO.refl _)
      | (with_reducible exact LeO.none _)
      | (with_reducible refine LeO.ite ?_ ?_)
      | (with_reducible refine LeO.bind ?_ (fun _ => ?_))
      | exact ih0 _ _ _ _ _ _
      | exact spec_IsStable.mono _ _ _ _ _
      | exact spec_SameDivisor.mono _ _ _
      | exact spec_l10Settle.mono _ _ _ _ _
      | exact spec_l11Lit.mono _ _ _ _ _
      | exact LeO.none _
      | refine LeO.ite ?_ ?_
      | refine LeO.bind ?_ (fun _ => ?_)
theorem spec_IsRecurrent.mono : ∀ a0 a1 a2 a3 k, LeO (spec_IsRecurrent.f k a0 a1 a2 a3) (spec_IsRecurrent.f (k + 1) a0 a1 a2 a3) := by
  intro a0 a1 a2 a3 k; have ih0 := spec_IsRecurrent.mono_l k; unfold spec_IsRecurrent.f
  repeat' first
      | (with_reducible exact ih0 _ _ _ _ _ _)
      | (with_reducible exact spec_IsStable.mono _ _ _ _ _)
      | (with_reducible exact spec_SameDivisor.mono _ _ _)
      | (with_reducible exact spec_l10Settle.mono _ _ _ _ _)
      | (with_reducible exact spec_l11Lit.mono _ _ _ _ _)
      | (with_reducible exact LeO.refl _)
      | (with_reducible exact LeO.none _)
      | (with_reducible refine LeO.ite ?_ ?_)
      | (with_reducible refine LeO.bind ?_ (fun _ => ?_))
      | exact ih0 _ _ _ _ _ _
      | exact spec_IsStable.mono _ _ _ _ _
      | exact spec_SameDivisor.mono _ _ _
      | exact spec_l10Settle.mono _ _ _ _ _
      | exact spec_l11Lit.mono _ _ _ _ _
      | exact LeO.none _
      | refine LeO.ite ?_ ?_
      | refine LeO.bind ?_ (fun _ => ?_)
end Go.Proofs.Ytjecgolakaiddaa.P
end

section
namespace Go.Proofs.Ytjecgolakaiddaa.P
open Go.RowKit Go.Proofs.YtjecgolakaiddaaW.PrintWords Go.Proofs.YtjecgolakaiddaaW.PrintLast Go.Proofs.YtjecgolakaiddaaW.PrintMore
attribute [local go_sem] max2_int min2_int max_two min_two max_three min_three max_four min_four
set_option linter.unusedVariables false
set_option linter.unusedSimpArgs false
def impl_IsRecurrent.l0 : Nat → List Int → Int → List Int → List Int → Int → Int → Option (Bool)
  | 0, _, _, _, _, _, _ => none
  | k + 1, x1, x2, x8, x33, x34, x35 => if x35 < x34 then (if 0 ≤ x35 then (if x35 < (x33.length : Int) then (if x35 = x2 then (impl_IsRecurrent.l0 k x1 x2 x8 x33 x34 (wrap64 (x35 + 1))) else (if (rd x33 x35) = 1 then (impl_IsRecurrent.l0 k x1 x2 x8 x33 x34 (wrap64 (x35 + 1))) else (some false))) else (none)) else (none)) else ((impl_SameDivisor.f k x8 x1).bind fun t115 => (some t115))
def impl_IsRecurrent.f (k : Nat) (a0_0 : Int) (l0_1 : List (S70)) (l1 : List Int) (a2 : Int) : Option (Bool) := (impl_IsStable.f k a0_0 l0_1 l1 a2).bind fun t102 => (if t102 = true then ((impl_copyInts.f l1).bind fun t103 => ((impl_fire.f k a0_0 l0_1 t103 a2 1).bind fun t106 => (if 0 ≤ a2 then (if a2 < (t103.length : Int) then ((impl_stabilize.f k a0_0 l0_1 (t106.set (a2 : Int).toNat 0) a2).bind fun bt108 => (impl_IsRecurrent.l0 k l1 a2 bt108.1 bt108.2 (bt108.2.length : Int) 0)) else (none)) else (none)))) else (some false))
theorem impl_IsRecurrent.mono_l : ∀ k, (∀ y0 y1 y2 y3 y4 y5, LeO (impl_IsRecurrent.l0 k y0 y1 y2 y3 y4 y5) (impl_IsRecurrent.l0 (k + 1) y0 y1 y2 y3 y4 y5))
  | 0 => fun _ _ _ _ _ _ r h => by simp [impl_IsRecurrent.l0] at h
  | k + 1 => by
    have ih0 := impl_IsRecurrent.mono_l k
    · intro y0 y1 y2 y3 y4 y5
      unfold impl_IsRecurrent.l0
      repeat' first
      | (with_reducible exact ih0 _ _ _ _ _ _)
      | (with_reducible exact impl_IsStable.mono _ _ _ _ _)
      | (with_reducible exact impl_SameDivisor.mono _ _ _)
      | (with_reducible exact impl_fire.mono _ _ _ _ _ _)
      | (with_reducible exact impl_stabilize.mono _ _ _ _ _)
      | (with_reducible exact LeO.refl _)
      | (with_reducible exact LeO.none _)
      | (with_reducible refine LeO.ite ?_ ?_)
      | (with_reducible refine LeO.bind ?_ (fun _ => ?_))
      | exact ih0 _ _ _ _ _ _
      | exact impl_IsStable.mono _ _ _ _ _
      | exact impl_SameDivisor.mono _ _ _
      | exact impl_fire.mono _ _ _ _ _ _
      | exact impl_stabilize.mono _ _ _ _ _
      | exact LeO.none _
      | refine LeO.ite ?_ ?_
      | refine LeO.bind ?_ (fun _ => ?_)
theorem impl_IsRecurrent.mono : ∀ a0 a1 a2 a3 k, LeO (impl_IsRecurrent.f k a0 a1 a2 a3) (impl_IsRecurrent.f (k + 1) a0 a1 a2 a3) := by
  intro a0 a1 a2 a3 k; have ih0 := impl_IsRecurrent.mono_l k; unfold impl_IsRecurrent.f
  repeat' first
      | (with_reducible exact ih0 _ _ _ _ _ _)
      | (with_reducible exact impl_IsStable.mono _ _ _ _ _)
      | (with_reducible exact impl_SameDivisor.mono _ _ _)
      | (with_reducible exact impl_fire.mono _ _ _ _ _ _)
      | (with_reducible exact impl_stabilize.mono _ _ _ _ _)
      | (with_reducible exact LeO.refl _)
      | (with_reducible exact LeO.none _)
      | (with_reducible refine LeO.ite ?_ ?_)
      | (with_reducible refine LeO.bind ?_ (fun _ => ?_))
      | exact ih0 _ _ _ _ _ _
      | exact impl_IsStable.mono _ _ _ _ _
      | exact impl_SameDivisor.mono _ _ _
      | exact impl_fire.mono _ _ _ _ _ _
      | exact impl_stabilize.mono _ _ _ _ _
      | exact LeO.none _
      | refine LeO.ite ?_ ?_
      | refine LeO.bind ?_ (fun _ => ?_)
end Go.Proofs.Ytjecgolakaiddaa.P
end

section
namespace Go.Proofs.Ytjecgolakaiddaa.Cf
set_option linter.unusedVariables false
set_option linter.unusedSimpArgs false
open Go.RowKit Go.Proofs.YtjecgolakaiddaaW.PrintWords Go.Proofs.Ytjecgolakaiddaa.P
theorem Bd.of60 {p : List Int} (h : ∀ x ∈ p, -60 ≤ x ∧ x ≤ 60) : Bd p 60 := fun w h0 h1 => by
  obtain ⟨i, rfl⟩ := Int.eq_ofNat_of_zero_le h0
  have hi : i < p.length := by omega
  rw [rd_get hi]
  exact h _ (List.getElem_mem hi)
end Go.Proofs.Ytjecgolakaiddaa.Cf
end

section
namespace Go.Proofs.Ytjecgolakaiddaa.P
open Go.RowKit Go.Proofs.YtjecgolakaiddaaW.PrintWords Go.Proofs.YtjecgolakaiddaaW.PrintLast Go.Proofs.YtjecgolakaiddaaW.PrintMore
attribute [local go_sem] max2_int min2_int max_two min_two max_three min_three max_four min_four
set_option linter.unusedVariables false
set_option linter.unusedSimpArgs false
def impl_DegreeOf.f (k : Nat) (l0 : List Int) : Option (Int) := (impl_sumOf.f k l0).bind fun t101 => (some t101)
theorem impl_DegreeOf.mono : ∀ a0 k, LeO (impl_DegreeOf.f k a0) (impl_DegreeOf.f (k + 1) a0) := by
  intro a0 k; unfold impl_DegreeOf.f
  repeat' first
      | (with_reducible exact impl_sumOf.mono _ _)
      | (with_reducible exact LeO.refl _)
      | (with_reducible exact LeO.none _)
      | (with_reducible refine LeO.ite ?_ ?_)
      | (with_reducible refine LeO.bind ?_ (fun _ => ?_))
      | exact impl_sumOf.mono _ _
      | exact LeO.none _
      | refine LeO.ite ?_ ?_
      | refine LeO.bind ?_ (fun _ => ?_)
end Go.Proofs.Ytjecgolakaiddaa.P
end

section
namespace Go.Proofs.Ytjecgolakaiddaa.P
open Go.RowKit Go.Proofs.YtjecgolakaiddaaW.PrintWords Go.Proofs.YtjecgolakaiddaaW.PrintLast Go.Proofs.YtjecgolakaiddaaW.PrintMore
attribute [local go_sem] max2_int min2_int max_two min_two max_three min_three max_four min_four
set_option linter.unusedVariables false
set_option linter.unusedSimpArgs false
def spec_l09Zero.f (k : Nat) (a0_0 : Int) (l0_1 : List (S70)) (l1 : List Int) : Option (Bool) := (spec_DivisorOk.f k a0_0 l0_1 l1).bind fun t102 => (if t102 = true then ((spec_DegreeOf.f k l1).bind fun t103 => (some (t103 == 0))) else (some false))
theorem spec_l09Zero.mono : ∀ a0 a1 a2 k, LeO (spec_l09Zero.f k a0 a1 a2) (spec_l09Zero.f (k + 1) a0 a1 a2) := by
  intro a0 a1 a2 k; unfold spec_l09Zero.f
  repeat' first
      | (with_reducible exact spec_DegreeOf.mono _ _)
      | (with_reducible exact spec_DivisorOk.mono _ _ _ _)
      | (with_reducible exact LeO.refl _)
      | (with_reducible exact LeO.none _)
      | (with_reducible refine LeO.ite ?_ ?_)
      | (with_reducible refine LeO.bind ?_ (fun _ => ?_))
      | exact spec_DegreeOf.mono _ _
      | exact spec_DivisorOk.mono _ _ _ _
      | exact LeO.none _
      | refine LeO.ite ?_ ?_
      | refine LeO.bind ?_ (fun _ => ?_)
end Go.Proofs.Ytjecgolakaiddaa.P
end

section
namespace Go.Proofs.Ytjecgolakaiddaa.P
open Go.RowKit Go.Proofs.YtjecgolakaiddaaW.PrintWords Go.Proofs.YtjecgolakaiddaaW.PrintLast Go.Proofs.YtjecgolakaiddaaW.PrintMore
attribute [local go_sem] max2_int min2_int max_two min_two max_three min_three max_four min_four
set_option linter.unusedVariables false
set_option linter.unusedSimpArgs false
def impl_ofDegreeZero.f (k : Nat) (a0_0 : Int) (l0_1 : List (S70)) (l1 : List Int) : Option (Bool) := (impl_DivisorOk.f k a0_0 l0_1 l1).bind fun t102 => (if t102 = true then ((impl_DegreeOf.f k l1).bind fun t103 => (some (t103 == 0))) else (some false))
theorem impl_ofDegreeZero.mono : ∀ a0 a1 a2 k, LeO (impl_ofDegreeZero.f k a0 a1 a2) (impl_ofDegreeZero.f (k + 1) a0 a1 a2) := by
  intro a0 a1 a2 k; unfold impl_ofDegreeZero.f
  repeat' first
      | (with_reducible exact impl_DegreeOf.mono _ _)
      | (with_reducible exact impl_DivisorOk.mono _ _ _ _)
      | (with_reducible exact LeO.refl _)
      | (with_reducible exact LeO.none _)
      | (with_reducible refine LeO.ite ?_ ?_)
      | (with_reducible refine LeO.bind ?_ (fun _ => ?_))
      | exact impl_DegreeOf.mono _ _
      | exact impl_DivisorOk.mono _ _ _ _
      | exact LeO.none _
      | refine LeO.ite ?_ ?_
      | refine LeO.bind ?_ (fun _ => ?_)
end Go.Proofs.Ytjecgolakaiddaa.P
end

section
namespace Go.Proofs.Ytjecgolakaiddaa.P
open Go.RowKit Go.Proofs.YtjecgolakaiddaaW.PrintWords Go.Proofs.YtjecgolakaiddaaW.PrintLast Go.Proofs.YtjecgolakaiddaaW.PrintMore
attribute [local go_sem] max2_int min2_int max_two min_two max_three min_three max_four min_four
set_option linter.unusedVariables false
set_option linter.unusedSimpArgs false
def spec_l11Full.f (k : Nat) (a0_0 : Int) (l0_1 : List (S70)) (l1 : List Int) (a2 : Int) : Option (List Int) := (spec_FullPile.f k a0_0 l0_1 a2).bind fun t102 => ((spec_l07Minus.f k t102 l1).bind fun t105 => (if 0 ≤ a2 then (if a2 < (t105.length : Int) then (some (t105.set (a2 : Int).toNat 0)) else (none)) else (none)))
theorem spec_l11Full.mono : ∀ a0 a1 a2 a3 k, LeO (spec_l11Full.f k a0 a1 a2 a3) (spec_l11Full.f (k + 1) a0 a1 a2 a3) := by
  intro a0 a1 a2 a3 k; unfold spec_l11Full.f
  repeat' first
      | (with_reducible exact spec_FullPile.mono _ _ _ _)
      | (with_reducible exact spec_l07Minus.mono _ _ _)
      | (with_reducible exact LeO.refl _)
      | (with_reducible exact LeO.none _)
      | (with_reducible refine LeO.ite ?_ ?_)
      | (with_reducible refine LeO.bind ?_ (fun _ => ?_))
      | exact spec_FullPile.mono _ _ _ _
      | exact spec_l07Minus.mono _ _ _
      | exact LeO.none _
      | refine LeO.ite ?_ ?_
      | refine LeO.bind ?_ (fun _ => ?_)
end Go.Proofs.Ytjecgolakaiddaa.P
end

section
namespace Go.Proofs.Ytjecgolakaiddaa.P
open Go.RowKit Go.Proofs.YtjecgolakaiddaaW.PrintWords Go.Proofs.YtjecgolakaiddaaW.PrintLast Go.Proofs.YtjecgolakaiddaaW.PrintMore
attribute [local go_sem] max2_int min2_int max_two min_two max_three min_three max_four min_four
set_option linter.unusedVariables false
set_option linter.unusedSimpArgs false
def spec_l11Class.f (k : Nat) (a0_0 : Int) (l0_1 : List (S70)) (l1 : List Int) (a2 : Int) : Option (List Int) := (spec_FullPile.f k a0_0 l0_1 a2).bind fun t102 => ((spec_l07Minus.f k t102 l1).bind fun t105 => ((spec_l05Reduce.f k a0_0 l0_1 t105 a2).bind fun bt108 => ((spec_l11Full.f k a0_0 l0_1 bt108.1 a2).bind fun t114 => (some t114))))
theorem spec_l11Class.mono : ∀ a0 a1 a2 a3 k, LeO (spec_l11Class.f k a0 a1 a2 a3) (spec_l11Class.f (k + 1) a0 a1 a2 a3) := by
  intro a0 a1 a2 a3 k; unfold spec_l11Class.f
  repeat' first
      | (with_reducible exact spec_FullPile.mono _ _ _ _)
      | (with_reducible exact spec_l05Reduce.mono _ _ _ _ _)
      | (with_reducible exact spec_l07Minus.mono _ _ _)
      | (with_reducible exact spec_l11Full.mono _ _ _ _ _)
      | (with_reducible exact LeO.refl _)
      | (with_reducible exact LeO.none _)
      | (with_reducible refine LeO.ite ?_ ?_)
      | (with_reducible refine LeO.bind ?_ (fun _ => ?_))
      | exact spec_FullPile.mono _ _ _ _
      | exact spec_l05Reduce.mono _ _ _ _ _
      | exact spec_l07Minus.mono _ _ _
      | exact spec_l11Full.mono _ _ _ _ _
      | exact LeO.none _
      | refine LeO.ite ?_ ?_
      | refine LeO.bind ?_ (fun _ => ?_)
end Go.Proofs.Ytjecgolakaiddaa.P
end

section
namespace Go.Proofs.Ytjecgolakaiddaa.P
open Go.RowKit Go.Proofs.YtjecgolakaiddaaW.PrintWords Go.Proofs.YtjecgolakaiddaaW.PrintLast Go.Proofs.YtjecgolakaiddaaW.PrintMore
attribute [local go_sem] max2_int min2_int max_two min_two max_three min_three max_four min_four
set_option linter.unusedVariables false
set_option linter.unusedSimpArgs false
def impl_recurrentOf.f (k : Nat) (a0_0 : Int) (l0_1 : List (S70)) (l1 : List Int) (a2 : Int) : Option (List Int) := (impl_FullPile.f k a0_0 l0_1 a2).bind fun t102 => ((impl_NegateDivisor.f k l1).bind fun t105 => ((impl_plus.f k t102 t105).bind fun t108 => ((impl_reduce.f k a0_0 l0_1 t108 a2).bind fun bt111 => ((impl_NegateDivisor.f k bt111.1).bind fun t117 => ((impl_plus.f k t102 t117).bind fun t120 => (if 0 ≤ a2 then (if a2 < (t120.length : Int) then (some (t120.set (a2 : Int).toNat 0)) else (none)) else (none)))))))
theorem impl_recurrentOf.mono : ∀ a0 a1 a2 a3 k, LeO (impl_recurrentOf.f k a0 a1 a2 a3) (impl_recurrentOf.f (k + 1) a0 a1 a2 a3) := by
  intro a0 a1 a2 a3 k; unfold impl_recurrentOf.f
  repeat' first
      | (with_reducible exact impl_FullPile.mono _ _ _ _)
      | (with_reducible exact impl_NegateDivisor.mono _ _)
      | (with_reducible exact impl_plus.mono _ _ _)
      | (with_reducible exact impl_reduce.mono _ _ _ _ _)
      | (with_reducible exact LeO.refl _)
      | (with_reducible exact LeO.none _)
      | (with_reducible refine LeO.ite ?_ ?_)
      | (with_reducible refine LeO.bind ?_ (fun _ => ?_))
      | exact impl_FullPile.mono _ _ _ _
      | exact impl_NegateDivisor.mono _ _
      | exact impl_plus.mono _ _ _
      | exact impl_reduce.mono _ _ _ _ _
      | exact LeO.none _
      | refine LeO.ite ?_ ?_
      | refine LeO.bind ?_ (fun _ => ?_)
end Go.Proofs.Ytjecgolakaiddaa.P
end

section
namespace Go.Proofs.Ytjecgolakaiddaa.P
open Go.RowKit Go.Proofs.YtjecgolakaiddaaW.PrintWords Go.Proofs.YtjecgolakaiddaaW.PrintLast Go.Proofs.YtjecgolakaiddaaW.PrintMore
attribute [local go_sem] max2_int min2_int max_two min_two max_three min_three max_four min_four
set_option linter.unusedVariables false
set_option linter.unusedSimpArgs false
def impl_ReducedOf.f (k : Nat) (a0_0 : Int) (l0_1 : List (S70)) (l1 : List Int) (a2 : Int) : Option (List Int × Bool) := (impl_DivisorOk.f k a0_0 l0_1 l1).bind fun t102 => (if t102 = true then ((impl_isVertex.f a0_0 l0_1 a2).bind fun t103 => (if t103 = true then ((impl_reduce.f k a0_0 l0_1 l1 a2).bind fun bt104 => (some (bt104.1, true))) else (some (([] : List Int), false)))) else (some (([] : List Int), false)))
theorem impl_ReducedOf.mono : ∀ a0 a1 a2 a3 k, LeO (impl_ReducedOf.f k a0 a1 a2 a3) (impl_ReducedOf.f (k + 1) a0 a1 a2 a3) := by
  intro a0 a1 a2 a3 k; unfold impl_ReducedOf.f
  repeat' first
      | (with_reducible exact impl_DivisorOk.mono _ _ _ _)
      | (with_reducible exact impl_reduce.mono _ _ _ _ _)
      | (with_reducible exact LeO.refl _)
      | (with_reducible exact LeO.none _)
      | (with_reducible refine LeO.ite ?_ ?_)
      | (with_reducible refine LeO.bind ?_ (fun _ => ?_))
      | exact impl_DivisorOk.mono _ _ _ _
      | exact impl_reduce.mono _ _ _ _ _
      | exact LeO.none _
      | refine LeO.ite ?_ ?_
      | refine LeO.bind ?_ (fun _ => ?_)
end Go.Proofs.Ytjecgolakaiddaa.P
end

section
namespace Go.Proofs.Ytjecgolakaiddaa.P
open Go.RowKit Go.Proofs.YtjecgolakaiddaaW.PrintWords Go.Proofs.YtjecgolakaiddaaW.PrintLast Go.Proofs.YtjecgolakaiddaaW.PrintMore
attribute [local go_sem] max2_int min2_int max_two min_two max_three min_three max_four min_four
set_option linter.unusedVariables false
set_option linter.unusedSimpArgs false
def impl_RepresentativeOf.f (k : Nat) (a0_0 : Int) (l0_1 : List (S70)) (l1 : List Int) : Option (List Int × Bool) := (impl_ReducedOf.f k a0_0 l0_1 l1 0).bind fun bt102 => (some (bt102.1, bt102.2))
theorem impl_RepresentativeOf.mono : ∀ a0 a1 a2 k, LeO (impl_RepresentativeOf.f k a0 a1 a2) (impl_RepresentativeOf.f (k + 1) a0 a1 a2) := by
  intro a0 a1 a2 k; unfold impl_RepresentativeOf.f
  repeat' first
      | (with_reducible exact impl_ReducedOf.mono _ _ _ _ _)
      | (with_reducible exact LeO.refl _)
      | (with_reducible exact LeO.none _)
      | (with_reducible refine LeO.ite ?_ ?_)
      | (with_reducible refine LeO.bind ?_ (fun _ => ?_))
      | exact impl_ReducedOf.mono _ _ _ _ _
      | exact LeO.none _
      | refine LeO.ite ?_ ?_
      | refine LeO.bind ?_ (fun _ => ?_)
end Go.Proofs.Ytjecgolakaiddaa.P
end

section
namespace Go.Proofs.Ytjecgolakaiddaa.Cf
set_option linter.unusedVariables false
set_option linter.unusedSimpArgs false
open Go.RowKit Go.Proofs.YtjecgolakaiddaaW.PrintWords Go.Proofs.Ytjecgolakaiddaa.P
theorem dOk_all {n : Int} {es : List E} {d : List Int} (h : dOk n es d = true) : ∃ m : Nat, n = m ∧ (∀ q : Int, 0 ≤ q → q < n → Gr m es q) ∧ 1 ≤ m ∧ m ≤ 6 ∧ d.length = m ∧ Bd d 60 ∧ Mod d := by
  obtain ⟨h1, h2, h3⟩ := dOk_iff.1 h
  obtain ⟨m, rfl⟩ := Int.eq_ofNat_of_zero_le (a := n) (by omega)
  have hg := h1.1
  unfold EsOk at hg
  exact ⟨m, rfl, fun q q0 q1 => Gr.of h1 ⟨q0, q1⟩, by omega, by omega, by omega, Bd.of60 h3, fun x hx => by have := h3 x hx; omega⟩
end Go.Proofs.Ytjecgolakaiddaa.Cf
end

section
namespace Go.Proofs.Ytjecgolakaiddaa.P
open Go.RowKit Go.Proofs.YtjecgolakaiddaaW.PrintWords Go.Proofs.YtjecgolakaiddaaW.PrintLast Go.Proofs.YtjecgolakaiddaaW.PrintMore
attribute [local go_sem] max2_int min2_int max_two min_two max_three min_three max_four min_four
set_option linter.unusedVariables false
set_option linter.unusedSimpArgs false
def spec_PileOfParking.f (k : Nat) (a0_0 : Int) (l0_1 : List (S70)) (l1 : List Int) (a2 : Int) : Option (List Int × Bool) := (spec_IsParking.f k a0_0 l0_1 l1 a2).bind fun t102 => (if t102 = true then ((spec_l11Full.f k a0_0 l0_1 l1 a2).bind fun t103 => (some (t103, true))) else (some (([] : List Int), false)))
theorem spec_PileOfParking.mono : ∀ a0 a1 a2 a3 k, LeO (spec_PileOfParking.f k a0 a1 a2 a3) (spec_PileOfParking.f (k + 1) a0 a1 a2 a3) := by
  intro a0 a1 a2 a3 k; unfold spec_PileOfParking.f
  repeat' first
      | (with_reducible exact spec_IsParking.mono _ _ _ _ _)
      | (with_reducible exact spec_l11Full.mono _ _ _ _ _)
      | (with_reducible exact LeO.refl _)
      | (with_reducible exact LeO.none _)
      | (with_reducible refine LeO.ite ?_ ?_)
      | (with_reducible refine LeO.bind ?_ (fun _ => ?_))
      | exact spec_IsParking.mono _ _ _ _ _
      | exact spec_l11Full.mono _ _ _ _ _
      | exact LeO.none _
      | refine LeO.ite ?_ ?_
      | refine LeO.bind ?_ (fun _ => ?_)
end Go.Proofs.Ytjecgolakaiddaa.P
end

section
namespace Go.Proofs.Ytjecgolakaiddaa.P
open Go.RowKit Go.Proofs.YtjecgolakaiddaaW.PrintWords Go.Proofs.YtjecgolakaiddaaW.PrintLast Go.Proofs.YtjecgolakaiddaaW.PrintMore
attribute [local go_sem] max2_int min2_int max_two min_two max_three min_three max_four min_four
set_option linter.unusedVariables false
set_option linter.unusedSimpArgs false
def impl_PileOfParking.f (k : Nat) (a0_0 : Int) (l0_1 : List (S70)) (l1 : List Int) (a2 : Int) : Option (List Int × Bool) := (impl_IsParking.f k a0_0 l0_1 l1 a2).bind fun t102 => (if t102 = true then ((impl_FullPile.f k a0_0 l0_1 a2).bind fun t103 => ((impl_NegateDivisor.f k l1).bind fun t106 => ((impl_plus.f k t103 t106).bind fun t109 => (if 0 ≤ a2 then (if a2 < (t109.length : Int) then (some ((t109.set (a2 : Int).toNat 0), true)) else (none)) else (none))))) else (some (([] : List Int), false)))
theorem impl_PileOfParking.mono : ∀ a0 a1 a2 a3 k, LeO (impl_PileOfParking.f k a0 a1 a2 a3) (impl_PileOfParking.f (k + 1) a0 a1 a2 a3) := by
  intro a0 a1 a2 a3 k; unfold impl_PileOfParking.f
  repeat' first
      | (with_reducible exact impl_FullPile.mono _ _ _ _)
      | (with_reducible exact impl_IsParking.mono _ _ _ _ _)
      | (with_reducible exact impl_NegateDivisor.mono _ _)
      | (with_reducible exact impl_plus.mono _ _ _)
      | (with_reducible exact LeO.refl _)
      | (with_reducible exact LeO.none _)
      | (with_reducible refine LeO.ite ?_ ?_)
      | (with_reducible refine LeO.bind ?_ (fun _ => ?_))
      | exact impl_FullPile.mono _ _ _ _
      | exact impl_IsParking.mono _ _ _ _ _
      | exact impl_NegateDivisor.mono _ _
      | exact impl_plus.mono _ _ _
      | exact LeO.none _
      | refine LeO.ite ?_ ?_
      | refine LeO.bind ?_ (fun _ => ?_)
end Go.Proofs.Ytjecgolakaiddaa.P
end

section
namespace Go.Proofs.Ytjecgolakaiddaa.P
open Go.RowKit Go.Proofs.YtjecgolakaiddaaW.PrintWords Go.Proofs.YtjecgolakaiddaaW.PrintLast Go.Proofs.YtjecgolakaiddaaW.PrintMore
attribute [local go_sem] max2_int min2_int max_two min_two max_three min_three max_four min_four
set_option linter.unusedVariables false
set_option linter.unusedSimpArgs false
def spec_ParkingOfPile.f (k : Nat) (a0_0 : Int) (l0_1 : List (S70)) (l1 : List Int) (a2 : Int) : Option (List Int × Bool) := (spec_IsRecurrent.f k a0_0 l0_1 l1 a2).bind fun t102 => (if t102 = true then ((spec_FullPile.f k a0_0 l0_1 a2).bind fun t103 => ((spec_l07Minus.f k t103 l1).bind fun t106 => (if 0 ≤ a2 then (if a2 < (t106.length : Int) then (some ((t106.set (a2 : Int).toNat (-1)), true)) else (none)) else (none)))) else (some (([] : List Int), false)))
theorem spec_ParkingOfPile.mono : ∀ a0 a1 a2 a3 k, LeO (spec_ParkingOfPile.f k a0 a1 a2 a3) (spec_ParkingOfPile.f (k + 1) a0 a1 a2 a3) := by
  intro a0 a1 a2 a3 k; unfold spec_ParkingOfPile.f
  repeat' first
      | (with_reducible exact spec_FullPile.mono _ _ _ _)
      | (with_reducible exact spec_IsRecurrent.mono _ _ _ _ _)
      | (with_reducible exact spec_l07Minus.mono _ _ _)
      | (with_reducible exact LeO.refl _)
      | (with_reducible exact LeO.none _)
      | (with_reducible refine LeO.ite ?_ ?_)
      | (with_reducible refine LeO.bind ?_ (fun _ => ?_))
      | exact spec_FullPile.mono _ _ _ _
      | exact spec_IsRecurrent.mono _ _ _ _ _
      | exact spec_l07Minus.mono _ _ _
      | exact LeO.none _
      | refine LeO.ite ?_ ?_
      | refine LeO.bind ?_ (fun _ => ?_)
end Go.Proofs.Ytjecgolakaiddaa.P
end

section
namespace Go.Proofs.Ytjecgolakaiddaa.P
open Go.RowKit Go.Proofs.YtjecgolakaiddaaW.PrintWords Go.Proofs.YtjecgolakaiddaaW.PrintLast Go.Proofs.YtjecgolakaiddaaW.PrintMore
attribute [local go_sem] max2_int min2_int max_two min_two max_three min_three max_four min_four
set_option linter.unusedVariables false
set_option linter.unusedSimpArgs false
def impl_ParkingOfPile.f (k : Nat) (a0_0 : Int) (l0_1 : List (S70)) (l1 : List Int) (a2 : Int) : Option (List Int × Bool) := (impl_IsRecurrent.f k a0_0 l0_1 l1 a2).bind fun t102 => (if t102 = true then ((impl_FullPile.f k a0_0 l0_1 a2).bind fun t103 => ((impl_NegateDivisor.f k l1).bind fun t106 => ((impl_plus.f k t103 t106).bind fun t109 => (if 0 ≤ a2 then (if a2 < (t109.length : Int) then (some ((t109.set (a2 : Int).toNat (-1)), true)) else (none)) else (none))))) else (some (([] : List Int), false)))
theorem impl_ParkingOfPile.mono : ∀ a0 a1 a2 a3 k, LeO (impl_ParkingOfPile.f k a0 a1 a2 a3) (impl_ParkingOfPile.f (k + 1) a0 a1 a2 a3) := by
  intro a0 a1 a2 a3 k; unfold impl_ParkingOfPile.f
  repeat' first
      | (with_reducible exact impl_FullPile.mono _ _ _ _)
      | (with_reducible exact impl_IsRecurrent.mono _ _ _ _ _)
      | (with_reducible exact impl_NegateDivisor.mono _ _)
      | (with_reducible exact impl_plus.mono _ _ _)
      | (with_reducible exact LeO.refl _)
      | (with_reducible exact LeO.none _)
      | (with_reducible refine LeO.ite ?_ ?_)
      | (with_reducible refine LeO.bind ?_ (fun _ => ?_))
      | exact impl_FullPile.mono _ _ _ _
      | exact impl_IsRecurrent.mono _ _ _ _ _
      | exact impl_NegateDivisor.mono _ _
      | exact impl_plus.mono _ _ _
      | exact LeO.none _
      | refine LeO.ite ?_ ?_
      | refine LeO.bind ?_ (fun _ => ?_)
end Go.Proofs.Ytjecgolakaiddaa.P
end

section
namespace Go.Proofs.Ytjecgolakaiddaa.P
open Go.RowKit Go.Proofs.YtjecgolakaiddaaW.PrintWords Go.Proofs.YtjecgolakaiddaaW.PrintLast Go.Proofs.YtjecgolakaiddaaW.PrintMore
attribute [local go_sem] max2_int min2_int max_two min_two max_three min_three max_four min_four
set_option linter.unusedVariables false
set_option linter.unusedSimpArgs false
def spec_l13Place.l0 : Nat → Int → List Int → Int → Int → Option (Int)
  | 0, _, _, _, _ => none
  | k + 1, x1, x7, x8, x9 => if x9 < x8 then (if 0 ≤ x9 then (if x9 < (x7.length : Int) then (if (rd x7 x9) = x1 then (some x9) else (spec_l13Place.l0 k x1 x7 x8 (wrap64 (x9 + 1)))) else (none)) else (none)) else (some (-1))
def spec_l13Place.f (k : Nat) (l0 : List Int) (a1 : Int) : Option (Int) := spec_l13Place.l0 k a1 l0 (l0.length : Int) 0
theorem spec_l13Place.mono_l : ∀ k, (∀ y0 y1 y2 y3, LeO (spec_l13Place.l0 k y0 y1 y2 y3) (spec_l13Place.l0 (k + 1) y0 y1 y2 y3))
  | 0 => fun _ _ _ _ r h => by simp [spec_l13Place.l0] at h
  | k + 1 => by
    have ih0 := spec_l13Place.mono_l k
    · intro y0 y1 y2 y3
      unfold spec_l13Place.l0
      repeat' first
      | (with_reducible exact ih0 _ _ _ _)
      | (with_reducible exact LeO.refl _)
      | (with_reducible exact LeO.none _)
      | (with_reducible refine LeO.ite ?_ ?_)
      | (with_reducible refine LeO.bind ?_ (fun _ => ?_))
      | exact ih0 _ _ _ _
      | exact LeO.none _
      | refine LeO.ite ?_ ?_
      | refine LeO.bind ?_ (fun _ => ?_)
theorem spec_l13Place.mono : ∀ a0 a1 k, LeO (spec_l13Place.f k a0 a1) (spec_l13Place.f (k + 1) a0 a1) := by
  intro a0 a1 k; have ih0 := spec_l13Place.mono_l k; unfold spec_l13Place.f
  repeat' first
      | (with_reducible exact ih0 _ _ _ _)
      | (with_reducible exact LeO.refl _)
      | (with_reducible exact LeO.none _)
      | (with_reducible refine LeO.ite ?_ ?_)
      | (with_reducible refine LeO.bind ?_ (fun _ => ?_))
      | exact ih0 _ _ _ _
      | exact LeO.none _
      | refine LeO.ite ?_ ?_
      | refine LeO.bind ?_ (fun _ => ?_)
end Go.Proofs.Ytjecgolakaiddaa.P
end

section
namespace Go.Proofs.Ytjecgolakaiddaa.P
open Go.RowKit Go.Proofs.YtjecgolakaiddaaW.PrintWords Go.Proofs.YtjecgolakaiddaaW.PrintLast Go.Proofs.YtjecgolakaiddaaW.PrintMore
attribute [local go_sem] max2_int min2_int max_two min_two max_three min_three max_four min_four
set_option linter.unusedVariables false
set_option linter.unusedSimpArgs false
def spec_l13Burnt.l0 : Nat → List Int → List Int → List (S70) → Int → Int → Option (List Int)
  | 0, _, _, _, _, _ => none
  | k + 1, x1, x5, x10, x11, x12 => if x12 < x11 then (if 0 ≤ x12 then (if x12 < (x10.length : Int) then ((spec_l13Place.f k x1 ((rd_T70 x10 x12).f0)).bind fun t107 => ((spec_l13Place.f k x1 ((rd_T70 x10 x12).f1)).bind fun t108 => (if t107 < t108 then (if x5.length < 17592186044416 then (spec_l13Burnt.l0 k x1 (x5 ++ [0]) x10 x11 (wrap64 (x12 + 1))) else (none)) else (if x5.length < 17592186044416 then (spec_l13Burnt.l0 k x1 (x5 ++ [1]) x10 x11 (wrap64 (x12 + 1))) else (none))))) else (none)) else (none)) else (some x5)
def spec_l13Burnt.f (k : Nat) (a0_0 : Int) (l0_1 : List (S70)) (l1 : List Int) : Option (List Int) := spec_l13Burnt.l0 k l1 (([] : List Int)) l0_1 (l0_1.length : Int) 0
theorem spec_l13Burnt.mono_l : ∀ k, (∀ y0 y1 y2 y3 y4, LeO (spec_l13Burnt.l0 k y0 y1 y2 y3 y4) (spec_l13Burnt.l0 (k + 1) y0 y1 y2 y3 y4))
  | 0 => fun _ _ _ _ _ r h => by simp [spec_l13Burnt.l0] at h
  | k + 1 => by
    have ih0 := spec_l13Burnt.mono_l k
    · intro y0 y1 y2 y3 y4
      unfold spec_l13Burnt.l0
      repeat' first
      | (with_reducible exact ih0 _ _ _ _ _)
      | (with_reducible exact spec_l13Place.mono _ _ _)
      | (with_reducible exact LeO.refl _)
      | (with_reducible exact LeO.none _)
      | (with_reducible refine LeO.ite ?_ ?_)
      | (with_reducible refine LeO.bind ?_ (fun _ => ?_))
      | exact ih0 _ _ _ _ _
      | exact spec_l13Place.mono _ _ _
      | exact LeO.none _
      | refine LeO.ite ?_ ?_
      | refine LeO.bind ?_ (fun _ => ?_)
theorem spec_l13Burnt.mono : ∀ a0 a1 a2 k, LeO (spec_l13Burnt.f k a0 a1 a2) (spec_l13Burnt.f (k + 1) a0 a1 a2) := by
  intro a0 a1 a2 k; have ih0 := spec_l13Burnt.mono_l k; unfold spec_l13Burnt.f
  repeat' first
      | (with_reducible exact ih0 _ _ _ _ _)
      | (with_reducible exact spec_l13Place.mono _ _ _)
      | (with_reducible exact LeO.refl _)
      | (with_reducible exact LeO.none _)
      | (with_reducible refine LeO.ite ?_ ?_)
      | (with_reducible refine LeO.bind ?_ (fun _ => ?_))
      | exact ih0 _ _ _ _ _
      | exact spec_l13Place.mono _ _ _
      | exact LeO.none _
      | refine LeO.ite ?_ ?_
      | refine LeO.bind ?_ (fun _ => ?_)
end Go.Proofs.Ytjecgolakaiddaa.P
end

section
namespace Go.Proofs.Ytjecgolakaiddaa.P
open Go.RowKit Go.Proofs.YtjecgolakaiddaaW.PrintWords Go.Proofs.YtjecgolakaiddaaW.PrintLast Go.Proofs.YtjecgolakaiddaaW.PrintMore
attribute [local go_sem] max2_int min2_int max_two min_two max_three min_three max_four min_four
set_option linter.unusedVariables false
set_option linter.unusedSimpArgs false
def impl_burnt.l0 : Nat → List Int → List Int → List (S70) → Int → Int → Option (List Int)
  | 0, _, _, _, _, _ => none
  | k + 1, x1, x5, x9, x10, x11 => if x11 < x10 then (if 0 ≤ x11 then (if x11 < (x9.length : Int) then ((slices_Index_int_int.f k x1 ((rd_T70 x9 x11).f0)).bind fun t104 => ((slices_Index_int_int.f k x1 ((rd_T70 x9 x11).f1)).bind fun t105 => (if t104 < t105 then (if x5.length < 17592186044416 then (impl_burnt.l0 k x1 (x5 ++ [0]) x9 x10 (wrap64 (x11 + 1))) else (none)) else (if x5.length < 17592186044416 then (impl_burnt.l0 k x1 (x5 ++ [1]) x9 x10 (wrap64 (x11 + 1))) else (none))))) else (none)) else (none)) else (some x5)
def impl_burnt.f (k : Nat) (a0_0 : Int) (l0_1 : List (S70)) (l1 : List Int) : Option (List Int) := impl_burnt.l0 k l1 ([] : List Int) l0_1 (l0_1.length : Int) 0
theorem impl_burnt.mono_l : ∀ k, (∀ y0 y1 y2 y3 y4, LeO (impl_burnt.l0 k y0 y1 y2 y3 y4) (impl_burnt.l0 (k + 1) y0 y1 y2 y3 y4))
  | 0 => fun _ _ _ _ _ r h => by simp [impl_burnt.l0] at h
  | k + 1 => by
    have ih0 := impl_burnt.mono_l k
    · intro y0 y1 y2 y3 y4
      unfold impl_burnt.l0
      repeat' first
      | (with_reducible exact ih0 _ _ _ _ _)
      | (with_reducible exact slices_Index_int_int.mono _ _ _)
      | (with_reducible exact LeO.refl _)
      | (with_reducible exact LeO.none _)
      | (with_reducible refine LeO.ite ?_ ?_)
      | (with_reducible refine LeO.bind ?_ (fun _ => ?_))
      | exact ih0 _ _ _ _ _
      | exact slices_Index_int_int.mono _ _ _
      | exact LeO.none _
      | refine LeO.ite ?_ ?_
      | refine LeO.bind ?_ (fun _ => ?_)
theorem impl_burnt.mono : ∀ a0 a1 a2 k, LeO (impl_burnt.f k a0 a1 a2) (impl_burnt.f (k + 1) a0 a1 a2) := by
  intro a0 a1 a2 k; have ih0 := impl_burnt.mono_l k; unfold impl_burnt.f
  repeat' first
      | (with_reducible exact ih0 _ _ _ _ _)
      | (with_reducible exact slices_Index_int_int.mono _ _ _)
      | (with_reducible exact LeO.refl _)
      | (with_reducible exact LeO.none _)
      | (with_reducible refine LeO.ite ?_ ?_)
      | (with_reducible refine LeO.bind ?_ (fun _ => ?_))
      | exact ih0 _ _ _ _ _
      | exact slices_Index_int_int.mono _ _ _
      | exact LeO.none _
      | refine LeO.ite ?_ ?_
      | refine LeO.bind ?_ (fun _ => ?_)
end Go.Proofs.Ytjecgolakaiddaa.P
end

section
namespace Go.Proofs.Ytjecgolakaiddaa.P
open Go.RowKit Go.Proofs.YtjecgolakaiddaaW.PrintWords Go.Proofs.YtjecgolakaiddaaW.PrintLast Go.Proofs.YtjecgolakaiddaaW.PrintMore
attribute [local go_sem] max2_int min2_int max_two min_two max_three min_three max_four min_four
set_option linter.unusedVariables false
set_option linter.unusedSimpArgs false
def spec_OrientByBurning.f (k : Nat) (a0_0 : Int) (l0_1 : List (S70)) (l1 : List Int) (a2 : Int) : Option (List Int × Bool) := (spec_BurnFrom.f k a0_0 l0_1 l1 a2).bind fun bt102 => (if bt102.2 = true then (if (bt102.1.length : Int) = a0_0 then ((spec_l13Burnt.f k a0_0 l0_1 bt102.1).bind fun t106 => (some (t106, true))) else (some (([] : List Int), false))) else (some (([] : List Int), false)))
theorem spec_OrientByBurning.mono : ∀ a0 a1 a2 a3 k, LeO (spec_OrientByBurning.f k a0 a1 a2 a3) (spec_OrientByBurning.f (k + 1) a0 a1 a2 a3) := by
  intro a0 a1 a2 a3 k; unfold spec_OrientByBurning.f
  repeat' first
      | (with_reducible exact spec_BurnFrom.mono _ _ _ _ _)
      | (with_reducible exact spec_l13Burnt.mono _ _ _ _)
      | (with_reducible exact LeO.refl _)
      | (with_reducible exact LeO.none _)
      | (with_reducible refine LeO.ite ?_ ?_)
      | (with_reducible refine LeO.bind ?_ (fun _ => ?_))
      | exact spec_BurnFrom.mono _ _ _ _ _
      | exact spec_l13Burnt.mono _ _ _ _
      | exact LeO.none _
      | refine LeO.ite ?_ ?_
      | refine LeO.bind ?_ (fun _ => ?_)
end Go.Proofs.Ytjecgolakaiddaa.P
end

section
namespace Go.Proofs.Ytjecgolakaiddaa.P
open Go.RowKit Go.Proofs.YtjecgolakaiddaaW.PrintWords Go.Proofs.YtjecgolakaiddaaW.PrintLast Go.Proofs.YtjecgolakaiddaaW.PrintMore
attribute [local go_sem] max2_int min2_int max_two min_two max_three min_three max_four min_four
set_option linter.unusedVariables false
set_option linter.unusedSimpArgs false
def impl_OrientByBurning.f (k : Nat) (a0_0 : Int) (l0_1 : List (S70)) (l1 : List Int) (a2 : Int) : Option (List Int × Bool) := (impl_BurnFrom.f k a0_0 l0_1 l1 a2).bind fun bt102 => (if bt102.2 = true then (if (bt102.1.length : Int) < a0_0 then (some (([] : List Int), false)) else ((impl_burnt.f k a0_0 l0_1 bt102.1).bind fun t106 => (some (t106, true)))) else (some (([] : List Int), false)))
theorem impl_OrientByBurning.mono : ∀ a0 a1 a2 a3 k, LeO (impl_OrientByBurning.f k a0 a1 a2 a3) (impl_OrientByBurning.f (k + 1) a0 a1 a2 a3) := by
  intro a0 a1 a2 a3 k; unfold impl_OrientByBurning.f
  repeat' first
      | (with_reducible exact impl_BurnFrom.mono _ _ _ _ _)
      | (with_reducible exact impl_burnt.mono _ _ _ _)
      | (with_reducible exact LeO.refl _)
      | (with_reducible exact LeO.none _)
      | (with_reducible refine LeO.ite ?_ ?_)
      | (with_reducible refine LeO.bind ?_ (fun _ => ?_))
      | exact impl_BurnFrom.mono _ _ _ _ _
      | exact impl_burnt.mono _ _ _ _
      | exact LeO.none _
      | refine LeO.ite ?_ ?_
      | refine LeO.bind ?_ (fun _ => ?_)
end Go.Proofs.Ytjecgolakaiddaa.P
end

section
namespace Go.Proofs.Ytjecgolakaiddaa.Cf
set_option linter.unusedVariables false
set_option linter.unusedSimpArgs false
open Go.RowKit Go.Proofs.YtjecgolakaiddaaW.PrintWords Go.Proofs.Ytjecgolakaiddaa.P
def bOk (n : Int) (es : List E) (d : List Int) (q : Int) : Bool := dOk n es d && decide (0 ≤ q ∧ q < n)
def bfO (n : Int) (es : List E) (d : List Int) (q : Int) : List Int × Bool := if bOk n es d q = true then (burnF n.toNat es (rd d) q, true) else ([], false)
theorem bOk_all {n : Int} {es : List E} {d : List Int} {q : Int} (h : bOk n es d q = true) : ∃ m : Nat, n = m ∧ Gr m es q ∧ GOk (m : Int) es ∧ d.length = m ∧ Bd d 60 := by
  unfold bOk at h
  rw [Bool.and_eq_true, decide_eq_true_eq] at h
  have hg := (dOk_iff.1 h.1).1
  obtain ⟨m, rfl, g, _, _, hl, hb, _⟩ := dOk_all h.1
  exact ⟨m, rfl, g q h.2.1 h.2.2, hg, hl, hb⟩
theorem bfO_snd {n : Int} {es : List E} {d : List Int} {q : Int} : (bfO n es d q).2 = bOk n es d q := by
  unfold bfO
  cases bOk n es d q <;> rfl
theorem specBF (n : Int) (es : List E) (d : List Int) (q : Int) (hl : d.length ≤ 1048576) : Ep (fun k => spec_BurnFrom.f k n es d q) (· = bfO n es d q) := by
  simp only [spec_BurnFrom.f, spec_l05Ok.f, bfO]
  refine Ep.bind (P := (· = bOk n es d q)) ?_ ?_
  · unfold bOk
    refine Ep.bind (specDiv n es d hl) ?_
    rintro _ rfl
    refine Ep.ite (fun h => ?_) (fun h => Ep.now ?_)
    · obtain ⟨m, rfl, _, h1, h6, _⟩ := dOk_all h
      rw [wrap_id (x := (m : Int) - 1) (by omega) (by omega), h]
      refine Ep.bind0 (l01In_eq _ _ _) (Ep.now ?_)
      have hq : (0 ≤ q ∧ q ≤ (m : Int) - 1) ↔ (0 ≤ q ∧ q < (m : Int)) := by omega
      simp only [hq, Bool.true_and]
    · have : dOk n es d = false := by simpa using h
      rw [this]
      rfl
  · rintro _ rfl
    refine Ep.ite (fun h => ?_) (fun h => Ep.now (by rw [if_neg h]))
    obtain ⟨m, rfl, g, _, hdl, _⟩ := bOk_all h
    refine Ep.bind (specBurn g d hdl) ?_
    rintro _ rfl
    exact Ep.now (by rw [if_pos h]; rfl)
theorem implBF (n : Int) (es : List E) (d : List Int) (q : Int) (hn : Wf .i64 n) (hl : d.length ≤ 1048576) : Ep (fun k => impl_BurnFrom.f k n es d q) (· = bfO n es d q) := by
  simp only [impl_BurnFrom.f, bfO]
  refine Ep.bind (implDiv n es d hl) ?_
  rintro _ rfl
  refine Ep.ite (fun h => ?_) (fun h => Ep.now ?_)
  · refine Ep.bind0 (isVertex_eq n es q hn) ?_
    have hgo := gOk_iff.2 (dOk_iff.1 h).1
    have e : (gOk n es && decide (0 ≤ q ∧ q < n)) = bOk n es d q := by unfold bOk; rw [hgo, h]
    rw [e]
    refine Ep.ite (fun h2 => ?_) (fun h2 => Ep.now (by rw [if_neg h2]))
    obtain ⟨m, rfl, g, _, hdl, _⟩ := bOk_all h2
    refine Ep.bind (implBurn g d hdl) ?_
    rintro _ rfl
    exact Ep.now (by rw [if_pos h2]; rfl)
  · have : bOk n es d q = false := by
      unfold bOk
      have : dOk n es d = false := by simpa using h
      rw [this]
      rfl
    rw [this]
    rfl
def redB (n : Int) (es : List E) (d : List Int) (q : Int) : Bool := if bOk n es d q = true then (if debtF q d d.length 0 < 0 then ((bfO n es d q).1.length : Int) == n else false) else false
theorem specRedB (n : Int) (es : List E) (d : List Int) (q : Int) (hl : d.length ≤ 1048576) : Ep (fun k => spec_IsReduced.f k n es d q) (· = redB n es d q) := by
  simp only [spec_IsReduced.f, redB]
  refine Ep.bind (specBF n es d q hl) ?_
  rintro _ rfl
  rw [bfO_snd]
  refine Ep.ite (fun h => ?_) (fun h => Ep.now (by rw [if_neg h]))
  rw [if_pos h]
  refine Ep.bind (specDebt d q hl) ?_
  rintro _ rfl
  refine Ep.ite (fun h2 => Ep.now ?_) (fun h2 => Ep.now ?_)
  · have h3 : 0 ≤ debtF q d d.length 0 := by simpa using h2
    rw [if_neg (by omega)]
  · have h3 : ¬ 0 ≤ debtF q d d.length 0 := by simpa using h2
    rw [if_pos (by omega)]
theorem implRedB (n : Int) (es : List E) (d : List Int) (q : Int) (hn : Wf .i64 n) (hl : d.length ≤ 1048576) : Ep (fun k => impl_IsReduced.f k n es d q) (· = redB n es d q) := by
  simp only [impl_IsReduced.f, redB]
  refine Ep.bind (implBF n es d q hn hl) ?_
  rintro _ rfl
  rw [bfO_snd]
  refine Ep.ite (fun h => ?_) (fun h => Ep.now (by rw [if_neg h]))
  rw [if_pos h]
  refine Ep.bind (implDebt d q hl) ?_
  rintro _ rfl
  refine Ep.ite (fun h2 => Ep.now ?_) (fun h2 => Ep.now ?_)
  · rw [if_pos h2]
  · rw [if_neg h2]
theorem redB_bOk {n : Int} {es : List E} {d : List Int} {q : Int} (h : redB n es d q = true) : bOk n es d q = true := by
  apply Classical.byContradiction
  intro hc
  unfold redB at h
  rw [if_neg hc] at h
  cases h
def parkB (n : Int) (es : List E) (d : List Int) (q : Int) : Bool := if redB n es d q = true then rd d q == -1 else false
theorem specPark (n : Int) (es : List E) (d : List Int) (q : Int) (hl : d.length ≤ 1048576) : Ep (fun k => spec_IsParking.f k n es d q) (· = parkB n es d q) := by
  simp only [spec_IsParking.f, parkB]
  refine Ep.bind (specRedB n es d q hl) ?_
  rintro _ rfl
  refine Ep.ite (fun h => ?_) (fun h => Ep.now (by rw [if_neg h]))
  obtain ⟨m, rfl, g, _, hdl, _⟩ := bOk_all (redB_bOk h)
  have := g.hq
  exact Ep.pos (by omega) (Ep.pos (by omega) (Ep.now (by rw [if_pos h])))
theorem implPark (n : Int) (es : List E) (d : List Int) (q : Int) (hn : Wf .i64 n) (hl : d.length ≤ 1048576) : Ep (fun k => impl_IsParking.f k n es d q) (· = parkB n es d q) := by
  simp only [impl_IsParking.f, parkB]
  refine Ep.bind (implRedB n es d q hn hl) ?_
  rintro _ rfl
  refine Ep.ite (fun h => ?_) (fun h => Ep.now (by rw [if_neg h]))
  obtain ⟨m, rfl, g, _, hdl, _⟩ := bOk_all (redB_bOk h)
  have := g.hq
  exact Ep.pos (by omega) (Ep.pos (by omega) (Ep.now (by rw [if_pos h])))
end Go.Proofs.Ytjecgolakaiddaa.Cf
end

section
namespace Go.Proofs.Ytjecgolakaiddaa.P
open Go.RowKit Go.Proofs.YtjecgolakaiddaaW.PrintWords Go.Proofs.YtjecgolakaiddaaW.PrintLast Go.Proofs.YtjecgolakaiddaaW.PrintMore
attribute [local go_sem] max2_int min2_int max_two min_two max_three min_three max_four min_four
set_option linter.unusedVariables false
set_option linter.unusedSimpArgs false
def laws_markEdgeS.l0 : Nat → List (S70) → Int → Int → Option (Int × (List (S70)))
  | 0, _, _, _ => none
  | k + 1, x0, x1, x5 => if x5 < (x0.length : Int) then (if 0 ≤ x5 then ((some (x0.set (x5 : Int).toNat (⟨x1, (rd_T70 x0 x5).f1⟩ : S70) : List (S70))).bind fun y101 => (laws_markEdgeS.l0 k (y101.set (x5 : Int).toNat (⟨(rd_T70 y101 x5).f0, wrap64 (x1 + 1)⟩ : S70)) (wrap64 ((wrap64 (x1 + 1)) + 1)) (wrap64 (x5 + 1)))) else (none)) else (some (x1, x0))
def laws_markEdgeS.f (k : Nat) (l0 : List (S70)) (a1 : Int) : Option (Int × (List (S70))) := laws_markEdgeS.l0 k l0 a1 0
theorem laws_markEdgeS.mono_l : ∀ k, (∀ y0 y1 y2, LeO (laws_markEdgeS.l0 k y0 y1 y2) (laws_markEdgeS.l0 (k + 1) y0 y1 y2))
  | 0 => fun _ _ _ r h => by simp [laws_markEdgeS.l0] at h
  | k + 1 => by
    have ih0 := laws_markEdgeS.mono_l k
    · intro y0 y1 y2
      unfold laws_markEdgeS.l0
      repeat' first
      | (with_reducible exact ih0 _ _ _)
      | (with_reducible exact LeO.refl _)
      | (with_reducible exact LeO.none _)
      | (with_reducible refine LeO.ite ?_ ?_)
      | (with_reducible refine LeO.bind ?_ (fun _ => ?_))
      | exact ih0 _ _ _
      | exact LeO.none _
      | refine LeO.ite ?_ ?_
      | refine LeO.bind ?_ (fun _ => ?_)
theorem laws_markEdgeS.mono : ∀ a0 a1 k, LeO (laws_markEdgeS.f k a0 a1) (laws_markEdgeS.f (k + 1) a0 a1) := by
  intro a0 a1 k; have ih0 := laws_markEdgeS.mono_l k; unfold laws_markEdgeS.f
  repeat' first
      | (with_reducible exact ih0 _ _ _)
      | (with_reducible exact LeO.refl _)
      | (with_reducible exact LeO.none _)
      | (with_reducible refine LeO.ite ?_ ?_)
      | (with_reducible refine LeO.bind ?_ (fun _ => ?_))
      | exact ih0 _ _ _
      | exact LeO.none _
      | refine LeO.ite ?_ ?_
      | refine LeO.bind ?_ (fun _ => ?_)
end Go.Proofs.Ytjecgolakaiddaa.P
end

section
namespace Go.Proofs.Ytjecgolakaiddaa.P
open Go.RowKit Go.Proofs.YtjecgolakaiddaaW.PrintWords Go.Proofs.YtjecgolakaiddaaW.PrintLast Go.Proofs.YtjecgolakaiddaaW.PrintMore
attribute [local go_sem] max2_int min2_int max_two min_two max_three min_three max_four min_four
set_option linter.unusedVariables false
set_option linter.unusedSimpArgs false
def laws_markGraph.f (k : Nat) (a0_0 : Int) (l0_1 : List (S70)) (a1 : Int) : Option (Int × (List (S70))) := (laws_markEdgeS.f k l0_1 a1).bind fun bt102 => (some (bt102.1, bt102.2))
theorem laws_markGraph.mono : ∀ a0 a1 a2 k, LeO (laws_markGraph.f k a0 a1 a2) (laws_markGraph.f (k + 1) a0 a1 a2) := by
  intro a0 a1 a2 k; unfold laws_markGraph.f
  repeat' first
      | (with_reducible exact laws_markEdgeS.mono _ _ _)
      | (with_reducible exact LeO.refl _)
      | (with_reducible exact LeO.none _)
      | (with_reducible refine LeO.ite ?_ ?_)
      | (with_reducible refine LeO.bind ?_ (fun _ => ?_))
      | exact laws_markEdgeS.mono _ _ _
      | exact LeO.none _
      | refine LeO.ite ?_ ?_
      | refine LeO.bind ?_ (fun _ => ?_)
end Go.Proofs.Ytjecgolakaiddaa.P
end

section
namespace Go.Proofs.Ytjecgolakaiddaa.Cf
set_option linter.unusedVariables false
set_option linter.unusedSimpArgs false
open Go.RowKit Go.Proofs.YtjecgolakaiddaaW.PrintWords Go.Proofs.Ytjecgolakaiddaa.P
def EWf (e : E) : Prop := Wf .i64 e.f0 ∧ Wf .i64 e.f1
theorem rdLE_get {es : List E} {i : Nat} (h : i < es.length) : rd_T96 es (i : Int) = es[i] := by simp [rd_T96, List.getD, h]
theorem szGraph_ok (n : Int) (es : List E) (a : Int) (ha : 0 ≤ a ∧ a ≤ 1048576) (hl : es.length ≤ 9223372036854775807) : ∃ t, laws_szGraph.f n es a = some t ∧ t ≤ 1048576 ∧ (¬ t < 0 → es.length ≤ 1048576) := by
  unfold laws_szGraph.f laws_szEdgeS.f
  rw [wrap_id (by omega) (by omega)]
  by_cases h : a - (es.length : Int) < 0
  · refine ⟨-1, ?_, by omega, by omega⟩
    rw [if_pos h]
    simp
  · refine ⟨a - es.length, ?_, by omega, by omega⟩
    rw [if_neg h]
    simp only [Option.bind_some]
    rw [if_neg h]
theorem toEdgeS_l0 (x0 : List E) (h : x0.length ≤ 1048576) : ∀ (d i : Nat) (x3 : List E), i + d = x0.length → x3.length = x0.length → (∀ j, j < i → x3[j]? = x0[j]?) → Ep (fun k => laws_toEdgeS.l0 k x0 x3 (i : Int)) (· = x0) := by
  intro d
  induction d with
  | zero =>
    intro i x3 hi hl hx
    refine Ep.up ?_
    simp only [laws_toEdgeS.l0]
    refine Ep.neg (by omega) (Ep.now ?_)
    apply List.ext_getElem?
    intro j
    by_cases hj : j < i
    · exact hx j hj
    · rw [List.getElem?_eq_none (by omega), List.getElem?_eq_none (by omega)]
  | succ d ih =>
    intro i x3 hi hl hx
    have hlt : i < x0.length := by omega
    refine Ep.up ?_
    simp only [laws_toEdgeS.l0]
    refine Ep.pos (by omega) (Ep.pos (by omega) ?_)
    rw [rdLE_get hlt, wrap_succ (by omega)]
    refine Ep.bind0 rfl (Ep.pos (by omega) ?_)
    refine ih (i + 1) _ (by omega) (by simpa using hl) ?_
    intro j hj
    rw [Int.toNat_natCast]
    by_cases e : i = j
    · subst e
      rw [List.getElem?_set_self (by omega), List.getElem?_eq_getElem (by omega)]
    · rw [List.getElem?_set_ne e]
      exact hx j (by omega)
theorem toGraph_ok (n : Int) (es : List E) (h : es.length ≤ 1048576) : Ep (fun k => laws_toGraph.f k n es) (· = (n, es)) := by
  simp only [laws_toGraph.f, laws_toEdgeS.f]
  refine Ep.bind (P := (· = es)) (Ep.pos (by omega) (Ep.pos (by simp; omega) ?_)) ?_
  · exact toEdgeS_l0 es h es.length 0 _ (by omega) (by simp) (fun j hj => by omega)
  · rintro _ rfl
    exact Ep.now rfl
theorem eqEdge_ok (a b : Int) : laws_eqEdge.f a b a b = some true := by simp [laws_eqEdge.f]
theorem eqEdgeS_l0 (x : List E) (h : x.length ≤ 1048576) : ∀ (d i : Nat), i + d = x.length → Ep (fun k => laws_eqEdgeS.l0 k x x (i : Int)) (· = true) := by
  intro d
  induction d with
  | zero =>
    intro i hi
    refine Ep.up ?_
    simp only [laws_eqEdgeS.l0]
    exact Ep.neg (by omega) (Ep.now rfl)
  | succ d ih =>
    intro i hi
    refine Ep.up ?_
    simp only [laws_eqEdgeS.l0]
    refine Ep.pos (by omega) (Ep.pos (by omega) (Ep.pos (by omega) ?_))
    rw [wrap_succ (by omega)]
    exact Ep.bind0 (eqEdge_ok _ _) (Ep.pos rfl (ih (i + 1) (by omega)))
theorem eqGraph_ok (n : Int) (es : List E) (h : es.length ≤ 1048576) : Ep (fun k => laws_eqGraph.f k n es n es) (· = true) := by
  simp only [laws_eqGraph.f]
  refine Ep.pos trivial (Ep.bind (P := (· = true)) ?_ ?_)
  · simp only [laws_eqEdgeS.f]
    exact Ep.pos trivial (eqEdgeS_l0 es h es.length 0 (by omega))
  · rintro _ rfl
    exact Ep.pos rfl (Ep.now rfl)
theorem markEdgeS_l0 (n : Nat) (hn : n ≤ 1048576) {B : Int} (hB : B ≤ 1099511627776) : ∀ (d i : Nat) (x : List E) (a : Int), i + d = n → x.length = n → 0 ≤ a → a + 2 * d ≤ B → Ep (fun k => laws_markEdgeS.l0 k x a (i : Int)) (fun r => 0 ≤ r.1 ∧ r.1 ≤ B) := by
  intro d
  induction d with
  | zero =>
    intro i x a hi hx h0 ha
    refine Ep.up ?_
    simp only [laws_markEdgeS.l0]
    exact Ep.neg (by omega) (Ep.now ⟨h0, by omega⟩)
  | succ d ih =>
    intro i x a hi hx h0 ha
    refine Ep.up ?_
    simp only [laws_markEdgeS.l0]
    refine Ep.pos (by omega) (Ep.pos (by omega) (Ep.bind0 rfl ?_))
    rw [wrap_succ (by omega), wrap_id (x := a + 1) (by omega) (by omega), wrap_id (x := a + 1 + 1) (by omega) (by omega)]
    exact ih (i + 1) _ _ (by omega) (by simpa using hx) (by omega) (by omega)
theorem markGraph_ok (n : Int) (es : List E) (a : Int) (h : es.length ≤ 1048576) (ha : 0 ≤ a ∧ a ≤ 1000) : Ep (fun k => laws_markGraph.f k n es a) (fun r => 0 ≤ r.1 ∧ r.1 ≤ 3000000) := by
  have := markEdgeS_l0 es.length h (B := 3000000) (by omega) es.length 0 es a (by omega) rfl ha.1 (by omega)
  simp only [laws_markGraph.f, laws_markEdgeS.f]
  refine Ep.bind this ?_
  intro r hr
  exact Ep.now hr
end Go.Proofs.Ytjecgolakaiddaa.Cf
end

section
namespace Go.Proofs.Ytjecgolakaiddaa.Cf
set_option linter.unusedVariables false
set_option linter.unusedSimpArgs false
open Go.RowKit Go.Proofs.YtjecgolakaiddaaW.PrintWords Go.Proofs.Ytjecgolakaiddaa.P
theorem law_FnExactIsParking (n : Int) (es : List E) (l : List Int) (q : Int) (hn : Wf .i64 n) (hes : SL EWf es) (wl : SL (Wf .i64) l) (wq : Wf .i64 q) : Ep (fun k => laws_FnExactIsParking.f k n es l q) (· = true) := by
  simp only [laws_FnExactIsParking.f]
  refine Ep.ite (fun _ => Ep.now rfl) (fun hcl => ?_)
  have hl : l.length ≤ 1048576 := by omega
  obtain ⟨t, ht, _, h2⟩ := szGraph_ok n es 1048576 (by omega) hes.1
  refine Ep.bind0 ht (Ep.ite (fun _ => Ep.now rfl) (fun hc2 => ?_))
  have hel := h2 hc2
  repeat (first
    | exact Ep.now rfl
    | (refine Ep.bind (toGraph_ok _ _ hel) ?_; rintro _ rfl)
    | (refine Ep.bind (eqGraph_ok _ _ hel) ?_; rintro _ rfl)
    | (refine Ep.bind (toIntS_ok _ hl) ?_; rintro _ rfl)
    | (refine Ep.bind (eqIntS_ok _ hl) ?_; rintro _ rfl)
    | (refine Ep.bind (specPark _ _ _ _ hl) ?_; rintro _ rfl)
    | (refine Ep.bind (implPark _ _ _ _ hn hl) ?_; rintro _ rfl)
    | (refine Ep.bind (markIntS_ok _ _ hl (by first | omega | (simp; omega))) ?_; rintro _ rfl)
    | (refine Ep.bind (markGraph_ok _ _ 1 hel (by omega)) ?_; intro r hr0_)
    | refine Ep.pos rfl ?_
    | refine Ep.pos trivial ?_
    | refine Ep.neg (by simp; omega) ?_
    | refine Ep.neg (by omega) ?_
    | refine Ep.neg (by simp) ?_)
end Go.Proofs.Ytjecgolakaiddaa.Cf
end

