/- A part of the proof of FnExactDropChip. -/
import Derived.Test.YtjecgolakaiddaaBFnExactDropChip2
import Derived.Test.YtjecgolakaiddaaBFnExactDropChip0
import Derived.Test.YtjecgolakaiddaaBFnExactDropChip1
section
namespace Go.Proofs.Ytjecgolakaiddaa.P
open Go.RowKit Go.Proofs.YtjecgolakaiddaaW.PrintWords Go.Proofs.YtjecgolakaiddaaW.PrintLast Go.Proofs.YtjecgolakaiddaaW.PrintMore
attribute [local go_sem] max2_int min2_int max_two min_two max_three min_three max_four min_four
set_option linter.unusedVariables false
set_option linter.unusedSimpArgs false
def impl_DropChip.j0 : Nat → List Int → Int → Int → Bool → Int → List (S70) → Option (List Int × Int × Bool)
  | 0, _, _, _, _, _, _ => none
  | k + 1, x1, x2, x3, x30, x102000, x102001 => if x30 = true then (some (([] : List Int), 0, false)) else ((impl_oneAt.f x102000 x102001 x3 1).bind fun t104 => ((impl_plus.f k x1 t104).bind fun t107 => ((impl_stabilize.f k x102000 x102001 t107 x2).bind fun bt110 => ((impl_sumOf.f k bt110.2).bind fun t116 => (some (bt110.1, t116, true))))))
def impl_DropChip.f (k : Nat) (a0_0 : Int) (l0_1 : List (S70)) (l1 : List Int) (a2 : Int) (a3 : Int) : Option (List Int × Int × Bool) := (impl_IsStable.f k a0_0 l0_1 l1 a2).bind fun t102 => (if t102 = true then (if a3 = a2 then (impl_DropChip.j0 k l1 a2 a3 true a0_0 l0_1) else ((impl_within.f a3 0 (wrap64 (a0_0 - 1))).bind fun t103 => (impl_DropChip.j0 k l1 a2 a3 (!t103) a0_0 l0_1))) else (impl_DropChip.j0 k l1 a2 a3 true a0_0 l0_1))
theorem impl_DropChip.mono_l : ∀ k, (∀ y0 y1 y2 y3 y4 y5, LeO (impl_DropChip.j0 k y0 y1 y2 y3 y4 y5) (impl_DropChip.j0 (k + 1) y0 y1 y2 y3 y4 y5))
  | 0 => fun _ _ _ _ _ _ r h => by simp [impl_DropChip.j0] at h
  | k + 1 => by
    have ih0 := impl_DropChip.mono_l k
    · intro y0 y1 y2 y3 y4 y5
      unfold impl_DropChip.j0
      exact zm14
theorem impl_DropChip.mono : ∀ a0 a1 a2 a3 a4 k, LeO (impl_DropChip.f k a0 a1 a2 a3 a4) (impl_DropChip.f (k + 1) a0 a1 a2 a3 a4) := by
  intro a0 a1 a2 a3 a4 k; have ih0 := impl_DropChip.mono_l k; unfold impl_DropChip.f; exact zm14
def impl_DropChip.T3 : Bool × List (List Nat × List Nat) := (true, [([], []), ([], []), ([], []), ([], []), ([2, 3], [2, 3]), ([1, 4, 4], [1, 4]), ([], []), ([0, 5, 6, 5], [0, 5, 6]), ([7], [7]), ([8], [8]), ([8], [8]), ([9, 7, 0, 1, 2, 3, 4, 5, 6, 7, 8, 9], [9]), ([10, 11, 0, 1, 2, 3, 4, 5, 6, 7, 8, 9, 10, 11], [10])])
def impl_DropChip.B3 : List Nat := [0, 0, 0, 0, 12, 30, 0, 127, 255, 511, 511, 1023, 4095]
theorem impl_DropChip.tab3 : rtab .any (opsOf Try.f81 3) = impl_DropChip.T3 := by kernel_rfl
theorem impl_DropChip.bits3 : waitsOk impl_DropChip.T3.2 impl_DropChip.B3 = true := by kernel_rfl
set_option maxHeartbeats 8000000 in
set_option maxRecDepth 100000 in
theorem impl_DropChip.calls (k : Nat) (a0_0 : Int) (A0_1 : Option Addr) (c0_1 : Nat) (l0_1 : List (S70)) (A1 : Option Addr) (c1 : Nat) (l1 : List Int) (a2 : Int) (a3 : Int) (r1 : List Int) (r2 : Int) (r3 : Bool) (w : World) (hr0_1 : Kd.C k70 w A0_1 l0_1.length l0_1) (hc0_1 : l0_1.length ≤ c0_1) (hr1 : Kd.C (Kd.int .i64) w A1 l1.length l1) (hc1 : l1.length ≤ c1) (h : impl_DropChip.f k a0_0 l0_1 l1 a2 a3 = some (r1, r2, r3)) :
    Calls Try.prog 81 #[.agg #[.int .i64 a0_0, .slice A0_1 l0_1.length c0_1], .slice A1 l1.length c1, .int .i64 a2, .int .i64 a3] w fun e w' => ∃ v0_ : Value, e = .returned (.tuple #[v0_, .int .i64 r2, .bool r3]) ∧ Kd.R (Kd.int .i64) 3 w' w.heap.size (fun _ => True) v0_ r1 ∧ Below w.heap.size w w' := by
  have hu38 := Try.underlying38; have HR0_1 := Aside0.mk hr0_1; have HC0_1 := Aside0.mk hc0_1; clear hr0_1 hc0_1; have HR1 := Aside0.mk hr1; have HC1 := Aside0.mk hc1; clear hr1 hc1; have HB := Aside0.mk (Below.refl w.heap.size w); have H : ((impl_IsStable.f k a0_0 l0_1 l1 a2).bind fun t102 => (if t102 = true then (if a3 = a2 then (impl_DropChip.j0 k l1 a2 a3 true a0_0 l0_1) else ((impl_within.f a3 0 (wrap64 (a0_0 - 1))).bind fun t103 => (impl_DropChip.j0 k l1 a2 a3 (!t103) a0_0 l0_1))) else (impl_DropChip.j0 k l1 a2 a3 true a0_0 l0_1))) = some (r1, r2, r3) := h; clear h; have HC5 := Aside0.mk H; clear H; go_enter Try.func81, Try.ntmps81; (go_upto_region 1 with (first | ((with_reducible refine gate_dst (N := 4) rfl ?_); refine box_event ?hg (N := 4) ?hd (cs := #[.int .i64 a0_0, .slice A0_1 l0_1.length c0_1]) (t := 38) ?hr ?_; (case hd => rfl); (case hg => rfl); (case hr => exact zz13); intro gb101 hg w6 hbox hb; have n0_ := Aside0.mk (below_step zz1 hb); have n1_ := Aside0.mk (hbox); have n2_ := Aside0.mk ((zz10 : w.heap.size ≤ gb101)); have n3_ := Aside0.mk ((zz10 : w.heap.size ≤ gb101)); clear HB; have HB := n0_; have BK101 := n1_; have GW101 := n2_; have GE101 := n3_; clear n0_ n1_ n2_ n3_; clear hb hbox hg))); (try simp only [Act.put, List.setIfInBounds_toArray, List.set_cons_zero, List.set_cons_succ]); go_cut [30] (fun v30 wc => ∃ (kq : Nat) (x30_4 : Bool), v30 = .bool x30_4 ∧ Aside0 (impl_DropChip.j0 kq l1 a2 a3 x30_4 a0_0 l0_1 = some (r1, r2, r3)) ∧ Aside0 (kq ≤ k) ∧ Aside0 (wc.heap[gb101]? = some (.cells #[.int .i64 a0_0, (.slice A0_1 l0_1.length c0_1)] 38 (0, 0))) ∧ Aside0 (Below w.heap.size w wc))
  case first =>
    have H := HC5.out; clear HC5; replace H := Option.bind_eq_some_iff.mp H; obtain ⟨t102, A70, H⟩ := H; replace H : (if t102 = true then (if a3 = a2 then (impl_DropChip.j0 k l1 a2 a3 true a0_0 l0_1) else ((impl_within.f a3 0 (wrap64 (a0_0 - 1))).bind fun t103 => (impl_DropChip.j0 k l1 a2 a3 (!t103) a0_0 l0_1))) else (impl_DropChip.j0 k l1 a2 a3 true a0_0 l0_1)) = some (r1, r2, r3) := H; have A7 := Aside0.mk A70; clear A70; by_cases c8 : t102 = true; rotate_left
    · replace c8 := Bool.eq_false_iff.mpr c8; subst c8; (have H1 : (impl_DropChip.j0 k l1 a2 a3 true a0_0 l0_1) = some (r1, r2, r3) := by rw [if_neg (show ¬ (false = true) by decide)] at H; exact H); clear H; have H := H1; clear H1; have H' := Aside0.mk H; clear H; have hcz16_0 : w6.cell? ⟨gb101, 0, none⟩ = some (.int .i64 a0_0) := (blk_cell BK101.out 0).trans rfl; have hcz16_1 : w6.cell? ⟨gb101, 1, none⟩ = some (.slice A0_1 l0_1.length c0_1) := (blk_cell BK101.out 1).trans rfl; have hfz16_0 := blk_frozen BK101.out 0; have hfz16_1 := blk_frozen BK101.out 1; (go_wp2_with (first | ((with_reducible refine gate_callee (f := 153) rfl ?_); refine goesL_ (some 16) rfl rfl Try.func153 (by kernel_rfl) rfl #[.agg #[.int .i64 a0_0, .slice A0_1 l0_1.length c0_1], .slice A1 l1.length c1, .int .i64 a2] rfl zz3 ?_; (with_reducible refine (impl_IsStable.calls k a0_0 _ _ l0_1 _ _ l1 a2 false _ ?side1 ?side2 ?side3 ?side4 A7.out).mono ?_); (case side1 => exact zz5); (case side2 => exact HC0_1.out); (case side3 => exact zz9); (case side4 => exact HC1.out); rintro e w17 ⟨rfl, hb⟩; refine ⟨_, rfl, ?_⟩; have n0_ := Aside0.mk (blk_below (g := gb101) (o := .cells #[.int .i64 a0_0, .slice A0_1 l0_1.length c0_1] 38 (0, 0)) zz2 hb); have n1_ := Aside0.mk (below_step zz0 hb); clear BK101; clear HB; have BK101 := n0_; have HB := n1_; clear n0_ n1_; (try clear hb); (try clear hb2); (try clear hk); (try clear hi)))); (go_meet); case rel => exact ⟨_, (true), zz8, H', ⟨by first | omega | exact Nat.le_refl _⟩, ⟨zz2⟩, ⟨zz0⟩⟩
    subst c8; (have H1 : (if a3 = a2 then (impl_DropChip.j0 k l1 a2 a3 true a0_0 l0_1) else ((impl_within.f a3 0 (wrap64 (a0_0 - 1))).bind fun t103 => (impl_DropChip.j0 k l1 a2 a3 (!t103) a0_0 l0_1))) = some (r1, r2, r3) := by rw [if_pos rfl] at H; exact H); clear H; have H := H1; clear H1; by_cases c9 : a3 = a2
    · rw [if_pos c9] at H; have c9b0 : (a3 == a2) = true := beq_iff_eq.mpr c9; have c9b1 : (a3 != a2) = false := bne_eq_false_iff_eq.mpr c9; clear c9; (first | rw [c9b0] | (simp only [i64_w, i32_w]; rw [c9b0]) | skip); have H' := Aside0.mk H; clear H; have hcz10_0 : w6.cell? ⟨gb101, 0, none⟩ = some (.int .i64 a0_0) := (blk_cell BK101.out 0).trans rfl; have hcz10_1 : w6.cell? ⟨gb101, 1, none⟩ = some (.slice A0_1 l0_1.length c0_1) := (blk_cell BK101.out 1).trans rfl; have hfz10_0 := blk_frozen BK101.out 0; have hfz10_1 := blk_frozen BK101.out 1; (go_wp2_with (first | ((with_reducible refine gate_callee (f := 153) rfl ?_); refine goesL_ (some 16) rfl rfl Try.func153 (by kernel_rfl) rfl #[.agg #[.int .i64 a0_0, .slice A0_1 l0_1.length c0_1], .slice A1 l1.length c1, .int .i64 a2] rfl zz3 ?_; (with_reducible refine (impl_IsStable.calls k a0_0 _ _ l0_1 _ _ l1 a2 true _ ?side1 ?side2 ?side3 ?side4 A7.out).mono ?_); (case side1 => exact zz5); (case side2 => exact HC0_1.out); (case side3 => exact zz9); (case side4 => exact HC1.out); rintro e w11 ⟨rfl, hb⟩; refine ⟨_, rfl, ?_⟩; have n0_ := Aside0.mk (blk_below (g := gb101) (o := .cells #[.int .i64 a0_0, .slice A0_1 l0_1.length c0_1] 38 (0, 0)) zz2 hb); have n1_ := Aside0.mk (below_step zz0 hb); clear BK101; clear HB; have BK101 := n0_; have HB := n1_; clear n0_ n1_; (try clear hb); (try clear hb2); (try clear hk); (try clear hi)))); (go_meet); case rel => exact ⟨_, (true), zz8, H', ⟨by first | omega | exact Nat.le_refl _⟩, ⟨zz2⟩, ⟨zz0⟩⟩
    rw [if_neg c9] at H; have c9b0 : (a3 == a2) = false := beq_eq_false_iff_ne.mpr c9; have c9b1 : (a3 != a2) = true := bne_iff_ne.mpr c9; (first | rw [c9b0] | (simp only [i64_w, i32_w]; rw [c9b0]) | skip); replace H := Option.bind_eq_some_iff.mp H; obtain ⟨t103, A120, H⟩ := H; replace H : (impl_DropChip.j0 k l1 a2 a3 (!t103) a0_0 l0_1) = some (r1, r2, r3) := H; have A12 := Aside0.mk A120; clear A120; have H' := Aside0.mk H; clear H; have hcz13_0 : w6.cell? ⟨gb101, 0, none⟩ = some (.int .i64 a0_0) := (blk_cell BK101.out 0).trans rfl; have hcz13_1 : w6.cell? ⟨gb101, 1, none⟩ = some (.slice A0_1 l0_1.length c0_1) := (blk_cell BK101.out 1).trans rfl; have hfz13_0 := blk_frozen BK101.out 0; have hfz13_1 := blk_frozen BK101.out 1; (go_wp2_with (first | ((with_reducible refine gate_callee (f := 153) rfl ?_); refine goesL_ (some 16) rfl rfl Try.func153 (by kernel_rfl) rfl #[.agg #[.int .i64 a0_0, .slice A0_1 l0_1.length c0_1], .slice A1 l1.length c1, .int .i64 a2] rfl zz3 ?_; (with_reducible refine (impl_IsStable.calls k a0_0 _ _ l0_1 _ _ l1 a2 true _ ?side1 ?side2 ?side3 ?side4 A7.out).mono ?_); (case side1 => exact zz5); (case side2 => exact HC0_1.out); (case side3 => exact zz9); (case side4 => exact HC1.out); rintro e w14 ⟨rfl, hb⟩; refine ⟨_, rfl, ?_⟩; have n0_ := Aside0.mk (blk_below (g := gb101) (o := .cells #[.int .i64 a0_0, .slice A0_1 l0_1.length c0_1] 38 (0, 0)) zz2 hb); have n1_ := Aside0.mk (below_step zz0 hb); clear BK101; clear HB; have BK101 := n0_; have HB := n1_; clear n0_ n1_; (try clear hb); (try clear hb2); (try clear hk); (try clear hi); have hcz15_0 : w14.cell? ⟨gb101, 0, none⟩ = some (.int .i64 a0_0) := (blk_cell BK101.out 0).trans rfl; have hcz15_1 : w14.cell? ⟨gb101, 1, none⟩ = some (.slice A0_1 l0_1.length c0_1) := (blk_cell BK101.out 1).trans rfl; have hfz15_0 := blk_frozen BK101.out 0; have hfz15_1 := blk_frozen BK101.out 1) | (go_at_call 123; (with_reducible refine (impl_within.calls a3 0 (wrap64 (a0_0 - 1)) t103 _ A12.out).mono ?_); rintro e w' ⟨rfl, ⟨nd, rfl⟩⟩))); (go_meet); case rel => exact ⟨_, (!t103), zz8, H', ⟨by first | omega | exact Nat.le_refl _⟩, ⟨zz2⟩, ⟨zz0⟩⟩
  case rest =>
    clear HC5; (try clear c1); (try clear p2); (try clear p6); (try clear c8); (try clear c9); (try clear c9b0); (try clear c9b1); (try clear c15); (try clear hcz10_0); (try clear hcz10_1); (try clear hcz13_0); (try clear hcz13_1); (try clear hcz15_0); (try clear hcz15_1); (try clear hcz16_0); (try clear hcz16_1); (try clear hfz10_0); (try clear hfz10_1); (try clear hfz13_0); (try clear hfz13_1); (try clear hfz15_0); (try clear hfz15_1); (try clear hfz16_0); (try clear hfz16_1); obtain ⟨kq, x30_4, rfl, HA, HJ4, BK101, HB⟩ := hcut
    cases kq with
    | zero => exact absurd HA.out (by simp [impl_DropChip.j0])
    | succ kj4 =>
      have H := HA.out; clear HA; simp only [impl_DropChip.j0] at H; by_cases c18 : x30_4 = true
      · subst c18; (have H1 : (some (([] : List Int), 0, false)) = some (r1, r2, r3) := by rw [if_pos rfl] at H; exact H); clear H; have H := H1; clear H1; simp only [Option.some.injEq, Prod.mk.injEq] at H; obtain ⟨rfl, rfl, rfl⟩ := H; go_wp2; (go_ret3); exact ⟨_, zz6, by first | exact Kd.R_nil _ _ _ _ _ | exact Kd.N_nil _ _ _ _ _ | exact Kd.V_nil _ _ _ _ _ | exact Kd.Q_nil _ _ _ _ _ | exact Kd.S_nil _ _ _ _ _, zz0⟩
      replace c18 := Bool.eq_false_iff.mpr c18; subst c18; (have H1 : ((impl_oneAt.f a0_0 l0_1 a3 1).bind fun t104 => ((impl_plus.f kj4 l1 t104).bind fun t107 => ((impl_stabilize.f kj4 a0_0 l0_1 t107 a2).bind fun bt110 => ((impl_sumOf.f kj4 bt110.2).bind fun t116 => (some (bt110.1, t116, true)))))) = some (r1, r2, r3) := by rw [if_neg (show ¬ (false = true) by decide)] at H; exact H); clear H; have H := H1; clear H1; replace H := Option.bind_eq_some_iff.mp H; obtain ⟨t104, A190, H⟩ := H; replace H : ((impl_plus.f kj4 l1 t104).bind fun t107 => ((impl_stabilize.f kj4 a0_0 l0_1 t107 a2).bind fun bt110 => ((impl_sumOf.f kj4 bt110.2).bind fun t116 => (some (bt110.1, t116, true))))) = some (r1, r2, r3) := H; have A19 := Aside0.mk A190; clear A190; replace H := Option.bind_eq_some_iff.mp H; obtain ⟨t107, A200, H⟩ := H; replace H : ((impl_stabilize.f kj4 a0_0 l0_1 t107 a2).bind fun bt110 => ((impl_sumOf.f kj4 bt110.2).bind fun t116 => (some (bt110.1, t116, true)))) = some (r1, r2, r3) := H; have A20 := Aside0.mk A200; clear A200; replace H := Option.bind_eq_some_iff.mp H; obtain ⟨⟨t110, t113⟩, A210, H⟩ := H; replace H : ((impl_sumOf.f kj4 t113).bind fun t116 => (some (t110, t116, true))) = some (r1, r2, r3) := H; have A21 := Aside0.mk A210; clear A210; replace H := Option.bind_eq_some_iff.mp H; obtain ⟨t116, A220, H⟩ := H; replace H : (some (t110, t116, true)) = some (r1, r2, r3) := H; have A22 := Aside0.mk A220; clear A220; simp only [Option.some.injEq, Prod.mk.injEq] at H; obtain ⟨rfl, rfl, rfl⟩ := H; (try go_wp2); have n0_ := Aside0.mk (blk_drew BK101.out); have n1_ := Aside0.mk (below_drew1 HB.out); clear BK101; clear HB; have BK101 := n0_; have HB := n1_; clear n0_ n1_; refine start_ (n := 13) (S := fun w' => w'.cell? ⟨gb101, 0, none⟩ = some (.int .i64 a0_0) ∧ w'.cell? ⟨gb101, 1, none⟩ = some (.slice A0_1 l0_1.length c0_1)) (ds := []) #[zf, zf, zf, zf, zf, zf, zf, zf, zf, zf, zf, zf, zf] (by kernel_rfl) rfl rfl ⟨(blk_cell BK101.out 0).trans rfl, (blk_cell BK101.out 1).trans rfl⟩ (fun hHeld => ?_); refine with_tabW impl_DropChip.tab3 impl_DropChip.bits3 (fun HT_ HW_ => ?_); generalize wc.drew = w23 at BK101 HB hHeld ⊢; refine pure_ (i := 1) (N := some 33) (v := ?_) (a' := ?_) #[zf, zt, zf, zf, zf, zf, zf, zf, zf, zf, zf, zf, zf] rfl rfl (any_of HT_.out (by kernel_rfl)) (fun _ _ _ h => h) (Or.inl ⟨by rfl, ?_⟩) ?_ ?_; rotate_left
      · intro w'; exact zzT
      rotate_left
      · exact zzS
      refine pure_ (i := 3) (N := some 35) (v := ?_) (a' := ?_) #[zf, zt, zf, zt, zf, zf, zf, zf, zf, zf, zf, zf, zf] rfl rfl (any_of HT_.out (by kernel_rfl)) (fun _ _ _ h => h) (Or.inl ⟨by rfl, ?_⟩) ?_ ?_; rotate_left
      · intro w'; exact zzT
      rotate_left
      · exact zzS
      refine pure_ (i := 6) (N := some 38) (v := ?_) (a' := ?_) #[zf, zt, zf, zt, zf, zf, zt, zf, zf, zf, zf, zf, zf] rfl rfl (any_of HT_.out (by kernel_rfl)) (fun _ _ _ h => h) (Or.inl ⟨by rfl, ?_⟩) ?_ ?_; rotate_left
      · intro w'; exact zzT
      rotate_left
      · exact zzS
      refine take_ (i := 0) (N := some 32) (v := ?_) (a' := ?_) #[zt, zt, zf, zt, zf, zf, zt, zf, zf, zf, zf, zf, zf] rfl rfl (take_ofW HT_.out HW_.out (by kernel_rfl)) (fun _ _ _ h => h) (Or.inl ⟨by rfl, ?_⟩) hHeld ?_ ?_; rotate_left
      · rintro w' ⟨s0, s1⟩; exact zzT
      rotate_left
      · exact zzS
      refine take_ (i := 2) (N := some 34) (v := ?_) (a' := ?_) #[zt, zt, zt, zt, zf, zf, zt, zf, zf, zf, zf, zf, zf] rfl rfl (take_ofW HT_.out HW_.out (by kernel_rfl)) (fun _ _ _ h => h) (Or.inl ⟨by rfl, ?_⟩) hHeld ?_ ?_; rotate_left
      · rintro w' ⟨s0, s1⟩; exact zzT
      rotate_left
      · exact zzS
      refine one_ (i := 4) (N := some 36) #[zt, zt, zt, zt, zt, zf, zt, zf, zf, zf, zf, zf, zf] rfl rfl (one_of HT_.out (by kernel_rfl)) (by decide) (fun K hK => ?_); refine goes_ Try.func155 (by kernel_rfl) rfl #[.agg #[.int .i64 a0_0, .slice A0_1 l0_1.length c0_1], .int .i64 a3, .int .i64 1] (by rfl) rfl rfl zz3 ?_; (with_reducible refine (impl_oneAt.calls a0_0 _ _ l0_1 a3 1 t104 _ ?side1 ?side2 A19.out).mono ?_); (case side1 => exact zz5); (case side2 => exact HC0_1.out); rintro e w24 ⟨v105, rfl, ho0, hb⟩; refine ⟨_, rfl, ?_⟩; have n0_ := Aside0.mk (Kd.R_lower ho0 (below_size zz0)); have n1_ := Aside0.mk (blk_below (g := gb101) (o := .cells #[.int .i64 a0_0, .slice A0_1 l0_1.length c0_1] 38 (0, 0)) zz2 hb); have n2_ := Aside0.mk (below_step zz0 hb); clear BK101; clear HB; have HO106 := n0_; have BK101 := n1_; have HB := n2_; clear n0_ n1_ n2_; (try clear hb); (try clear hb2); (try clear hk); (try clear hi); (try clear ho0); obtain ⟨Ao25, co25, eo25⟩ := Kd.R_slice HO106.out; (first | subst eo25 | (injection eo25 with f1_ f2_ f3_; have f4_ := f1_.symm; have f5_ := f3_.symm; clear f1_ f2_ f3_; subst f4_; subst f5_)); refine hK.out _ _ ⟨(blk_cell BK101.out 0).trans rfl, (blk_cell BK101.out 1).trans rfl⟩ (fun hHeld => ?_); clear hK K; refine norm_ (a' := ?_) ?_ ?_; rotate_left
      · show Act.put _ (some 36) _ = _; exact zzS
      refine one_ (i := 5) (N := some 37) #[zt, zt, zt, zt, zt, zt, zt, zf, zf, zf, zf, zf, zf] rfl rfl (one_of HT_.out (by kernel_rfl)) (by decide) (fun K hK => ?_); refine goes_ Try.func149 (by kernel_rfl) rfl #[.slice A1 l1.length c1, .slice Ao25 t104.length co25] (by rfl) rfl rfl zz3 ?_; (with_reducible refine (impl_plus.calls kj4 _ _ l1 _ _ t104 t107 _ ?side1 ?side2 ?side3 ?side4 A20.out).mono ?_); (case side1 => exact zz9); (case side2 => exact HC1.out); (case side3 => repeat (first | exact (Kd.R_reads' HO106.out).2.2 | (with_reducible refine Kd.C_alloc ?_ _) | (with_reducible refine Kd.C_drewN ?_ _) | (with_reducible refine Kd.C_drew ?_))); (case side4 => exact (Kd.R_reads' HO106.out).2.1); rintro e w26 ⟨v108, rfl, ho0, hb⟩; refine ⟨_, rfl, ?_⟩; have n0_ := Aside0.mk (Kd.R_elder' zz23 (Kd.R_base ho0) hb); have n1_ := Aside0.mk (Kd.R_lower (Kd.R_new' ho0 (Kd.R_lt zz23)) (below_size zz0)); have n2_ := Aside0.mk (blk_below (g := gb101) (o := .cells #[.int .i64 a0_0, .slice A0_1 l0_1.length c0_1] 38 (0, 0)) zz2 hb); have n3_ := Aside0.mk (below_step zz0 hb); clear HO106; clear BK101; clear HB; have HO106 := n0_; have HO109 := n1_; have BK101 := n2_; have HB := n3_; clear n0_ n1_ n2_ n3_; (try clear hb); (try clear hb2); (try clear hk); (try clear hi); (try clear ho0); obtain ⟨Ao27, co27, eo27⟩ := Kd.R_slice HO109.out; (first | subst eo27 | (injection eo27 with f1_ f2_ f3_; have f4_ := f1_.symm; have f5_ := f3_.symm; clear f1_ f2_ f3_; subst f4_; subst f5_)); refine hK.out _ _ ⟨(blk_cell BK101.out 0).trans rfl, (blk_cell BK101.out 1).trans rfl⟩ (fun hHeld => ?_); clear hK K; refine norm_ (a' := ?_) ?_ ?_; rotate_left
      · show Act.put _ (some 37) _ = _; exact zzS
      refine one_ (i := 7) (N := some 39) #[zt, zt, zt, zt, zt, zt, zt, zt, zf, zf, zf, zf, zf] rfl rfl (one_of HT_.out (by kernel_rfl)) (by decide) (fun K hK => ?_); refine goes_ Try.func143 (by kernel_rfl) rfl #[.agg #[.int .i64 a0_0, .slice A0_1 l0_1.length c0_1], .slice Ao27 t107.length co27, .int .i64 a2] (by rfl) rfl rfl zz3 ?_; (with_reducible refine (impl_stabilize.calls kj4 a0_0 _ _ l0_1 _ _ t107 a2 t110 t113 _ ?side1 ?side2 ?side3 ?side4 A21.out).mono ?_); (case side1 => exact zz5); (case side2 => exact HC0_1.out); (case side3 => repeat (first | exact (Kd.R_reads' HO109.out).2.2 | (with_reducible refine Kd.C_alloc ?_ _) | (with_reducible refine Kd.C_drewN ?_ _) | (with_reducible refine Kd.C_drew ?_))); (case side4 => exact (Kd.R_reads' HO109.out).2.1); rintro e w28 ⟨v111, v114, rfl, ho0, ho1, hb⟩; refine ⟨_, rfl, ?_⟩; have n0_ := Aside0.mk (Kd.R_mono (Kd.R_told (Kd.R_told (Kd.R_old zz23 hb) (Kd.R_base ho0)) (Kd.R_base ho1)) (fun _ h_ => h_.1)); have n1_ := Aside0.mk (Kd.R_mono (Kd.R_told (Kd.R_told (Kd.R_old zz24 hb) (Kd.R_base ho0)) (Kd.R_base ho1)) (fun _ h_ => h_.1)); have n2_ := Aside0.mk (Kd.R_lower (Kd.R_new' (Kd.R_new' ho0 (Kd.R_lt zz23)) (Kd.R_lt zz24)) (below_size zz0)); have n3_ := Aside0.mk (Kd.R_lower (Kd.R_new' (Kd.R_new' ho1 (Kd.R_lt zz23)) (Kd.R_lt zz24)) (below_size zz0)); have n4_ := Aside0.mk (blk_below (g := gb101) (o := .cells #[.int .i64 a0_0, .slice A0_1 l0_1.length c0_1] 38 (0, 0)) zz2 hb); have n5_ := Aside0.mk (below_step zz0 hb); clear HO106; clear HO109; clear BK101; clear HB; have HO106 := n0_; have HO109 := n1_; have HO112 := n2_; have HO115 := n3_; have BK101 := n4_; have HB := n5_; clear n0_ n1_ n2_ n3_ n4_ n5_; (try clear hb); (try clear hb2); (try clear hk); (try clear hi); (try clear ho0); (try clear ho1); refine hK.out _ _ ⟨(blk_cell BK101.out 0).trans rfl, (blk_cell BK101.out 1).trans rfl⟩ (fun hHeld => ?_); clear hK K; refine norm_ (a' := ?_) ?_ ?_; rotate_left
      · show Act.put _ (some 39) _ = _; exact zzS
      refine pure_ (i := 8) (N := some 31) (v := ?_) (a' := ?_) #[zt, zt, zt, zt, zt, zt, zt, zt, zt, zf, zf, zf, zf] rfl rfl (any_of HT_.out (by kernel_rfl)) (fun _ _ _ h => h) (Or.inl ⟨by rfl, ?_⟩) ?_ ?_; rotate_left
      · intro w'; exact zzT
      rotate_left
      · exact zzS
      refine pure_ (i := 9) (N := some 40) (v := ?_) (a' := ?_) #[zt, zt, zt, zt, zt, zt, zt, zt, zt, zt, zf, zf, zf] rfl rfl (any_of HT_.out (by kernel_rfl)) (fun _ _ _ h => h) (Or.inl ⟨by rfl, ?_⟩) ?_ ?_; rotate_left
      · intro w'; exact zzT
      rotate_left
      · exact zzS
      refine pure_ (i := 10) (N := some 41) (v := ?_) (a' := ?_) #[zt, zt, zt, zt, zt, zt, zt, zt, zt, zt, zt, zf, zf] rfl rfl (any_of HT_.out (by kernel_rfl)) (fun _ _ _ h => h) (Or.inl ⟨by rfl, ?_⟩) ?_ ?_; rotate_left
      · intro w'; exact zzT
      rotate_left
      · exact zzS
      refine pure_ (i := 11) (N := some 11) (v := ?_) (a' := ?_) #[zt, zt, zt, zt, zt, zt, zt, zt, zt, zt, zt, zt, zf] rfl rfl (any_of HT_.out (by kernel_rfl)) (fun _ _ _ h => h) (Or.inl ⟨by rfl, ?_⟩) ?_ ?_; rotate_left
      · intro w'; exact zzT
      rotate_left
      · exact zzS
      refine pure_ (i := 12) (N := some 12) (v := ?_) (a' := ?_) #[zt, zt, zt, zt, zt, zt, zt, zt, zt, zt, zt, zt, zt] rfl rfl (any_of HT_.out (by kernel_rfl)) (fun _ _ _ h => h) (Or.inl ⟨by rfl, ?_⟩) ?_ ?_; rotate_left
      · intro w'; exact zzT
      rotate_left
      · exact zzS
      refine done_ (done_of HT_.out (by kernel_rfl)) ?_; obtain ⟨Ao29, co29, eo29⟩ := Kd.R_slice HO115.out; subst eo29; (try go_wp2_with (first | ((with_reducible refine gate_callee (f := 141) rfl ?_); refine goesL_ (some 44) rfl rfl Try.func141 (by kernel_rfl) rfl #[.slice Ao29 t113.length co29] rfl zz3 ?_; (with_reducible refine (impl_sumOf.calls kj4 _ _ t113 t116 _ ?side1 ?side2 A22.out).mono ?_); (case side1 => repeat (first | exact (Kd.R_reads' HO115.out).2.2 | (with_reducible refine Kd.C_alloc ?_ _) | (with_reducible refine Kd.C_drewN ?_ _) | (with_reducible refine Kd.C_drew ?_))); (case side2 => exact (Kd.R_reads' HO115.out).2.1); rintro e w' ⟨rfl, ⟨nd, rfl⟩⟩; refine ⟨_, rfl, ?_⟩))); (go_ret3); exact ⟨_, zz6, by (with_reducible repeat (first | apply Kd.R_alloc | apply Kd.R_drewN | apply Kd.R_drew)); exact Kd.R_mono HO112.out (fun _ hk => trivial), zz0⟩
mutual
def laws_FnExactDropChip.j0 : Nat → List Int → Int → Int → List Int → Int → Bool → List Int → List Int → Int → Bool → Bool → Int → List (S96) → Int → List (S70) → Option (Bool)
  | 0, _, _, _, _, _, _, _, _, _, _, _, _, _, _, _ => none
  | k + 1, x1, x2, x3, x10, x11, x12, x14, x15, x16, x17, x69, x102000, x102001, x120000, x120001 => if x69 = true then (none) else ((laws_toGraph.f k x102000 x102001).bind fun bt129 => ((laws_eqGraph.f k x120000 x120001 bt129.1 bt129.2).bind fun t133 => (if t133 = true then ((laws_toIntS.f k x1).bind fun t134 => ((laws_eqIntS.f k x14 t134).bind fun t137 => (if t137 = true then ((laws_markGraph.f k x120000 x120001 1).bind fun bt138 => ((laws_markIntS.f k x14 bt138.1).bind fun bt140 => (if bt140.1 < 0 then (laws_FnExactDropChip.j1 k x1 x2 x3 x10 x11 x12 x15 true x102000 x102001) else ((laws_eqIntS.f k x15 x10).bind fun t142 => (if t142 = true then (if x16 = x11 then (laws_FnExactDropChip.j1 k x1 x2 x3 x10 x11 x12 x15 (x17 != x12) x102000 x102001) else (laws_FnExactDropChip.j1 k x1 x2 x3 x10 x11 x12 x15 true x102000 x102001)) else (laws_FnExactDropChip.j1 k x1 x2 x3 x10 x11 x12 x15 true x102000 x102001)))))) else (none)))) else (none))))
def laws_FnExactDropChip.j1 : Nat → List Int → Int → Int → List Int → Int → Bool → List Int → Bool → Int → List (S96) → Option (Bool)
  | 0, _, _, _, _, _, _, _, _, _, _ => none
  | k + 1, x1, x2, x3, x10, x11, x12, x15, x103, x102000, x102001 => if x103 = true then (none) else ((laws_markIntS.f k x15 1).bind fun bt143 => ((laws_heldIntS.f k bt143.2 1).bind fun t145 => (if t145 < 0 then (none) else (if t145 = bt143.1 then ((laws_toGraph.f k x102000 x102001).bind fun bt146 => ((laws_toIntS.f k x1).bind fun t150 => ((impl_DropChip.f k bt146.1 bt146.2 t150 x2 x3).bind fun bt153 => ((laws_eqIntS.f k bt153.1 x10).bind fun t158 => (if t158 = true then (if bt153.2.1 = x11 then (laws_FnExactDropChip.j2 k bt143.2 bt143.1 (bt153.2.2 != x12)) else (laws_FnExactDropChip.j2 k bt143.2 bt143.1 true)) else (laws_FnExactDropChip.j2 k bt143.2 bt143.1 true)))))) else (none)))))
def laws_FnExactDropChip.j2 : Nat → List Int → Int → Bool → Option (Bool)
  | 0, _, _, _ => none
  | k + 1, x15, x19, x139 => if x139 = true then (none) else ((laws_heldIntS.f k x15 1).bind fun t159 => (if t159 < 0 then (none) else (if t159 = x19 then (some true) else (none))))
end
def laws_FnExactDropChip.f (k : Nat) (a0_0 : Int) (l0_1 : List (S96)) (l1 : List Int) (a2 : Int) (a3 : Int) : Option (Bool) := if (l1.length : Int) > 1048576 then (some true) else ((laws_szGraph.f a0_0 l0_1 1048576).bind fun t102 => (if t102 < 0 then (some true) else ((laws_toGraph.f k a0_0 l0_1).bind fun bt103 => ((laws_toIntS.f k l1).bind fun t107 => ((spec_DropChip.f k bt103.1 bt103.2 t107 a2 a3).bind fun bt110 => ((laws_toGraph.f k a0_0 l0_1).bind fun bt115 => ((laws_toIntS.f k l1).bind fun t120 => ((impl_DropChip.f k bt115.1 bt115.2 t120 a2 a3).bind fun bt123 => ((laws_eqIntS.f k bt123.1 bt110.1).bind fun t128 => (if t128 = true then (if bt123.2.1 = bt110.2.1 then (laws_FnExactDropChip.j0 k l1 a2 a3 bt110.1 bt110.2.1 bt110.2.2 t120 bt123.1 bt123.2.1 bt123.2.2 (bt123.2.2 != bt110.2.2) a0_0 l0_1 bt115.1 bt115.2) else (laws_FnExactDropChip.j0 k l1 a2 a3 bt110.1 bt110.2.1 bt110.2.2 t120 bt123.1 bt123.2.1 bt123.2.2 true a0_0 l0_1 bt115.1 bt115.2)) else (laws_FnExactDropChip.j0 k l1 a2 a3 bt110.1 bt110.2.1 bt110.2.2 t120 bt123.1 bt123.2.1 bt123.2.2 true a0_0 l0_1 bt115.1 bt115.2)))))))))))
theorem laws_FnExactDropChip.mono_l : ∀ k, (∀ y0 y1 y2 y3 y4 y5 y6 y7 y8 y9 y10 y11 y12 y13 y14, LeO (laws_FnExactDropChip.j0 k y0 y1 y2 y3 y4 y5 y6 y7 y8 y9 y10 y11 y12 y13 y14) (laws_FnExactDropChip.j0 (k + 1) y0 y1 y2 y3 y4 y5 y6 y7 y8 y9 y10 y11 y12 y13 y14)) ∧ (∀ y0 y1 y2 y3 y4 y5 y6 y7 y8 y9, LeO (laws_FnExactDropChip.j1 k y0 y1 y2 y3 y4 y5 y6 y7 y8 y9) (laws_FnExactDropChip.j1 (k + 1) y0 y1 y2 y3 y4 y5 y6 y7 y8 y9)) ∧ (∀ y0 y1 y2, LeO (laws_FnExactDropChip.j2 k y0 y1 y2) (laws_FnExactDropChip.j2 (k + 1) y0 y1 y2))
  | 0 => ⟨fun _ _ _ _ _ _ _ _ _ _ _ _ _ _ _ r h => by simp [laws_FnExactDropChip.j0] at h, fun _ _ _ _ _ _ _ _ _ _ r h => by simp [laws_FnExactDropChip.j1] at h, fun _ _ _ r h => by simp [laws_FnExactDropChip.j2] at h⟩
  | k + 1 => by
    obtain ⟨ih0, ih1, ih2⟩ := laws_FnExactDropChip.mono_l k
    refine ⟨?_, ?_, ?_⟩
    · intro y0 y1 y2 y3 y4 y5 y6 y7 y8 y9 y10 y11 y12 y13 y14
      unfold laws_FnExactDropChip.j0
      exact zm2
    · intro y0 y1 y2 y3 y4 y5 y6 y7 y8 y9
      unfold laws_FnExactDropChip.j1
      exact zm2
    · intro y0 y1 y2
      unfold laws_FnExactDropChip.j2
      exact zm2
theorem laws_FnExactDropChip.mono : ∀ a0 a1 a2 a3 a4 k, LeO (laws_FnExactDropChip.f k a0 a1 a2 a3 a4) (laws_FnExactDropChip.f (k + 1) a0 a1 a2 a3 a4) := by
  intro a0 a1 a2 a3 a4 k; obtain ⟨ih0, ih1, ih2⟩ := laws_FnExactDropChip.mono_l k; unfold laws_FnExactDropChip.f; exact zm2
set_option maxHeartbeats 8000000 in
set_option maxRecDepth 100000 in
theorem laws_FnExactDropChip.calls (k : Nat) (a0_0 : Int) (A0_1 : Option Addr) (c0_1 : Nat) (l0_1 : List (S96)) (A1 : Option Addr) (c1 : Nat) (l1 : List Int) (a2 : Int) (a3 : Int) (r : Bool) (w : World) (hr0_1 : Kd.C k96 w A0_1 l0_1.length l0_1) (hc0_1 : l0_1.length ≤ c0_1) (hr1 : Kd.C (Kd.int .i64) w A1 l1.length l1) (hc1 : l1.length ≤ c1) (h : laws_FnExactDropChip.f k a0_0 l0_1 l1 a2 a3 = some r) :
    Calls Try.prog 21 #[.agg #[.int .i64 a0_0, .slice A0_1 l0_1.length c0_1], .slice A1 l1.length c1, .int .i64 a2, .int .i64 a3] w fun e w' => e = .returned (.bool r) ∧ Below w.heap.size w w' := by
  have hu33 := Try.underlying33; have hu38 := Try.underlying38; have HR0_1 := Aside0.mk hr0_1; have HC0_1 := Aside0.mk hc0_1; clear hr0_1 hc0_1; have HR1 := Aside0.mk hr1; have HC1 := Aside0.mk hc1; clear hr1 hc1; have HB := Aside0.mk (Below.refl w.heap.size w); have H : (if (l1.length : Int) > 1048576 then (some true) else ((laws_szGraph.f a0_0 l0_1 1048576).bind fun t102 => (if t102 < 0 then (some true) else ((laws_toGraph.f k a0_0 l0_1).bind fun bt103 => ((laws_toIntS.f k l1).bind fun t107 => ((spec_DropChip.f k bt103.1 bt103.2 t107 a2 a3).bind fun bt110 => ((laws_toGraph.f k a0_0 l0_1).bind fun bt115 => ((laws_toIntS.f k l1).bind fun t120 => ((impl_DropChip.f k bt115.1 bt115.2 t120 a2 a3).bind fun bt123 => ((laws_eqIntS.f k bt123.1 bt110.1).bind fun t128 => (if t128 = true then (if bt123.2.1 = bt110.2.1 then (laws_FnExactDropChip.j0 k l1 a2 a3 bt110.1 bt110.2.1 bt110.2.2 t120 bt123.1 bt123.2.1 bt123.2.2 (bt123.2.2 != bt110.2.2) a0_0 l0_1 bt115.1 bt115.2) else (laws_FnExactDropChip.j0 k l1 a2 a3 bt110.1 bt110.2.1 bt110.2.2 t120 bt123.1 bt123.2.1 bt123.2.2 true a0_0 l0_1 bt115.1 bt115.2)) else (laws_FnExactDropChip.j0 k l1 a2 a3 bt110.1 bt110.2.1 bt110.2.2 t120 bt123.1 bt123.2.1 bt123.2.2 true a0_0 l0_1 bt115.1 bt115.2)))))))))))) = some r := h; clear h; by_cases c5 : (l1.length : Int) > 1048576
  · rw [if_pos c5] at H; have c5b0 : decide (1048576 < (l1.length : Int)) = true := decide_eq_true c5; have c5b1 : decide (1048576 < l1.length) = true := decide_eq_true (by omega); clear c5; obtain rfl := Option.some.inj H; go_enter Try.func21, Try.ntmps21; (go_wp2_with (first | ((with_reducible refine gate_dst (N := 4) rfl ?_); refine box_event ?hg (N := 4) ?hd (cs := #[.int .i64 a0_0, .slice A0_1 l0_1.length c0_1]) (t := 33) ?hr ?_; (case hd => rfl); (case hg => rfl); (case hr => exact zz13); intro gb101 hg w6 hbox hb; have n0_ := Aside0.mk (below_step zz1 hb); have n1_ := Aside0.mk (hbox); have n2_ := Aside0.mk ((zz10 : w.heap.size ≤ gb101)); have n3_ := Aside0.mk ((zz10 : w.heap.size ≤ gb101)); clear HB; have HB := n0_; have BK101 := n1_; have GW101 := n2_; have GE101 := n3_; clear n0_ n1_ n2_ n3_; clear hb hbox hg))); go_ret; exact ⟨zz6, zz0⟩
  rw [if_neg c5] at H; have c5b0 : decide (1048576 < (l1.length : Int)) = false := decide_eq_false c5; have c5b1 : decide (1048576 < l1.length) = false := decide_eq_false (by omega); clear c5; replace H := Option.bind_eq_some_iff.mp H; obtain ⟨t102, A70, H⟩ := H; replace H : (if t102 < 0 then (some true) else ((laws_toGraph.f k a0_0 l0_1).bind fun bt103 => ((laws_toIntS.f k l1).bind fun t107 => ((spec_DropChip.f k bt103.1 bt103.2 t107 a2 a3).bind fun bt110 => ((laws_toGraph.f k a0_0 l0_1).bind fun bt115 => ((laws_toIntS.f k l1).bind fun t120 => ((impl_DropChip.f k bt115.1 bt115.2 t120 a2 a3).bind fun bt123 => ((laws_eqIntS.f k bt123.1 bt110.1).bind fun t128 => (if t128 = true then (if bt123.2.1 = bt110.2.1 then (laws_FnExactDropChip.j0 k l1 a2 a3 bt110.1 bt110.2.1 bt110.2.2 t120 bt123.1 bt123.2.1 bt123.2.2 (bt123.2.2 != bt110.2.2) a0_0 l0_1 bt115.1 bt115.2) else (laws_FnExactDropChip.j0 k l1 a2 a3 bt110.1 bt110.2.1 bt110.2.2 t120 bt123.1 bt123.2.1 bt123.2.2 true a0_0 l0_1 bt115.1 bt115.2)) else (laws_FnExactDropChip.j0 k l1 a2 a3 bt110.1 bt110.2.1 bt110.2.2 t120 bt123.1 bt123.2.1 bt123.2.2 true a0_0 l0_1 bt115.1 bt115.2)))))))))) = some r := H; have A7 := Aside0.mk A70; clear A70; by_cases c8 : t102 < 0
  · rw [if_pos c8] at H; have c8b0 : decide (t102 < 0) = true := decide_eq_true c8; clear c8; obtain rfl := Option.some.inj H; go_enter Try.func21, Try.ntmps21; (go_wp2_with (first | ((with_reducible refine gate_dst (N := 4) rfl ?_); refine box_event ?hg (N := 4) ?hd (cs := #[.int .i64 a0_0, .slice A0_1 l0_1.length c0_1]) (t := 33) ?hr ?_; (case hd => rfl); (case hg => rfl); (case hr => exact zz13); intro gb101 hg w9 hbox hb; have n0_ := Aside0.mk (below_step zz1 hb); have n1_ := Aside0.mk (hbox); have n2_ := Aside0.mk ((zz10 : w.heap.size ≤ gb101)); have n3_ := Aside0.mk ((zz10 : w.heap.size ≤ gb101)); clear HB; have HB := n0_; have BK101 := n1_; have GW101 := n2_; have GE101 := n3_; clear n0_ n1_ n2_ n3_; clear hb hbox hg; have hcz10_0 : w9.cell? ⟨gb101, 0, none⟩ = some (.int .i64 a0_0) := (blk_cell BK101.out 0).trans rfl; have hcz10_1 : w9.cell? ⟨gb101, 1, none⟩ = some (.slice A0_1 l0_1.length c0_1) := (blk_cell BK101.out 1).trans rfl; have hfz10_0 := blk_frozen BK101.out 0; have hfz10_1 := blk_frozen BK101.out 1) | ((with_reducible refine gate_callee (f := 41) rfl ?_); refine goesL_ (some 29) rfl rfl Try.func41 (by kernel_rfl) rfl #[.agg #[.int .i64 a0_0, .slice A0_1 l0_1.length c0_1], .int .i64 1048576] rfl zz3 ?_; (with_reducible refine (laws_szGraph.calls a0_0 _ _ l0_1 1048576 t102 _ ?side1 ?side2 A7.out).mono ?_); (case side1 => exact zz5); (case side2 => exact HC0_1.out); rintro e w11 ⟨rfl, hb⟩; refine ⟨_, rfl, ?_⟩; have n0_ := Aside0.mk (blk_below (g := gb101) (o := .cells #[.int .i64 a0_0, .slice A0_1 l0_1.length c0_1] 33 (0, 0)) zz2 hb); have n1_ := Aside0.mk (below_step zz0 hb); clear BK101; clear HB; have BK101 := n0_; have HB := n1_; clear n0_ n1_; (try clear hb); (try clear hb2); (try clear hk); (try clear hi)))); go_ret; exact ⟨zz6, zz0⟩
  rw [if_neg c8] at H; have c8b0 : decide (t102 < 0) = false := decide_eq_false c8; clear c8; replace H := Option.bind_eq_some_iff.mp H; obtain ⟨⟨t103, t104⟩, A120, H⟩ := H; replace H : ((laws_toIntS.f k l1).bind fun t107 => ((spec_DropChip.f k t103 t104 t107 a2 a3).bind fun bt110 => ((laws_toGraph.f k a0_0 l0_1).bind fun bt115 => ((laws_toIntS.f k l1).bind fun t120 => ((impl_DropChip.f k bt115.1 bt115.2 t120 a2 a3).bind fun bt123 => ((laws_eqIntS.f k bt123.1 bt110.1).bind fun t128 => (if t128 = true then (if bt123.2.1 = bt110.2.1 then (laws_FnExactDropChip.j0 k l1 a2 a3 bt110.1 bt110.2.1 bt110.2.2 t120 bt123.1 bt123.2.1 bt123.2.2 (bt123.2.2 != bt110.2.2) a0_0 l0_1 bt115.1 bt115.2) else (laws_FnExactDropChip.j0 k l1 a2 a3 bt110.1 bt110.2.1 bt110.2.2 t120 bt123.1 bt123.2.1 bt123.2.2 true a0_0 l0_1 bt115.1 bt115.2)) else (laws_FnExactDropChip.j0 k l1 a2 a3 bt110.1 bt110.2.1 bt110.2.2 t120 bt123.1 bt123.2.1 bt123.2.2 true a0_0 l0_1 bt115.1 bt115.2)))))))) = some r := H; have A12 := Aside0.mk A120; clear A120; replace H := Option.bind_eq_some_iff.mp H; obtain ⟨t107, A130, H⟩ := H; replace H : ((spec_DropChip.f k t103 t104 t107 a2 a3).bind fun bt110 => ((laws_toGraph.f k a0_0 l0_1).bind fun bt115 => ((laws_toIntS.f k l1).bind fun t120 => ((impl_DropChip.f k bt115.1 bt115.2 t120 a2 a3).bind fun bt123 => ((laws_eqIntS.f k bt123.1 bt110.1).bind fun t128 => (if t128 = true then (if bt123.2.1 = bt110.2.1 then (laws_FnExactDropChip.j0 k l1 a2 a3 bt110.1 bt110.2.1 bt110.2.2 t120 bt123.1 bt123.2.1 bt123.2.2 (bt123.2.2 != bt110.2.2) a0_0 l0_1 bt115.1 bt115.2) else (laws_FnExactDropChip.j0 k l1 a2 a3 bt110.1 bt110.2.1 bt110.2.2 t120 bt123.1 bt123.2.1 bt123.2.2 true a0_0 l0_1 bt115.1 bt115.2)) else (laws_FnExactDropChip.j0 k l1 a2 a3 bt110.1 bt110.2.1 bt110.2.2 t120 bt123.1 bt123.2.1 bt123.2.2 true a0_0 l0_1 bt115.1 bt115.2))))))) = some r := H; have A13 := Aside0.mk A130; clear A130; replace H := Option.bind_eq_some_iff.mp H; obtain ⟨⟨t110, t113, t114⟩, A140, H⟩ := H; replace H : ((laws_toGraph.f k a0_0 l0_1).bind fun bt115 => ((laws_toIntS.f k l1).bind fun t120 => ((impl_DropChip.f k bt115.1 bt115.2 t120 a2 a3).bind fun bt123 => ((laws_eqIntS.f k bt123.1 t110).bind fun t128 => (if t128 = true then (if bt123.2.1 = t113 then (laws_FnExactDropChip.j0 k l1 a2 a3 t110 t113 t114 t120 bt123.1 bt123.2.1 bt123.2.2 (bt123.2.2 != t114) a0_0 l0_1 bt115.1 bt115.2) else (laws_FnExactDropChip.j0 k l1 a2 a3 t110 t113 t114 t120 bt123.1 bt123.2.1 bt123.2.2 true a0_0 l0_1 bt115.1 bt115.2)) else (laws_FnExactDropChip.j0 k l1 a2 a3 t110 t113 t114 t120 bt123.1 bt123.2.1 bt123.2.2 true a0_0 l0_1 bt115.1 bt115.2)))))) = some r := H; have A14 := Aside0.mk A140; clear A140; replace H := Option.bind_eq_some_iff.mp H; obtain ⟨⟨t115, t116⟩, A150, H⟩ := H; replace H : ((laws_toIntS.f k l1).bind fun t120 => ((impl_DropChip.f k t115 t116 t120 a2 a3).bind fun bt123 => ((laws_eqIntS.f k bt123.1 t110).bind fun t128 => (if t128 = true then (if bt123.2.1 = t113 then (laws_FnExactDropChip.j0 k l1 a2 a3 t110 t113 t114 t120 bt123.1 bt123.2.1 bt123.2.2 (bt123.2.2 != t114) a0_0 l0_1 t115 t116) else (laws_FnExactDropChip.j0 k l1 a2 a3 t110 t113 t114 t120 bt123.1 bt123.2.1 bt123.2.2 true a0_0 l0_1 t115 t116)) else (laws_FnExactDropChip.j0 k l1 a2 a3 t110 t113 t114 t120 bt123.1 bt123.2.1 bt123.2.2 true a0_0 l0_1 t115 t116))))) = some r := H; have A15 := Aside0.mk A150; clear A150; replace H := Option.bind_eq_some_iff.mp H; obtain ⟨t120, A160, H⟩ := H; replace H : ((impl_DropChip.f k t115 t116 t120 a2 a3).bind fun bt123 => ((laws_eqIntS.f k bt123.1 t110).bind fun t128 => (if t128 = true then (if bt123.2.1 = t113 then (laws_FnExactDropChip.j0 k l1 a2 a3 t110 t113 t114 t120 bt123.1 bt123.2.1 bt123.2.2 (bt123.2.2 != t114) a0_0 l0_1 t115 t116) else (laws_FnExactDropChip.j0 k l1 a2 a3 t110 t113 t114 t120 bt123.1 bt123.2.1 bt123.2.2 true a0_0 l0_1 t115 t116)) else (laws_FnExactDropChip.j0 k l1 a2 a3 t110 t113 t114 t120 bt123.1 bt123.2.1 bt123.2.2 true a0_0 l0_1 t115 t116)))) = some r := H; have A16 := Aside0.mk A160; clear A160; replace H := Option.bind_eq_some_iff.mp H; obtain ⟨⟨t123, t126, t127⟩, A170, H⟩ := H; replace H : ((laws_eqIntS.f k t123 t110).bind fun t128 => (if t128 = true then (if t126 = t113 then (laws_FnExactDropChip.j0 k l1 a2 a3 t110 t113 t114 t120 t123 t126 t127 (t127 != t114) a0_0 l0_1 t115 t116) else (laws_FnExactDropChip.j0 k l1 a2 a3 t110 t113 t114 t120 t123 t126 t127 true a0_0 l0_1 t115 t116)) else (laws_FnExactDropChip.j0 k l1 a2 a3 t110 t113 t114 t120 t123 t126 t127 true a0_0 l0_1 t115 t116))) = some r := H; have A17 := Aside0.mk A170; clear A170; have HC18 := Aside0.mk H; clear H; go_enter Try.func21, Try.ntmps21; (go_upto_region 11 with (first | ((with_reducible refine gate_dst (N := 4) rfl ?_); refine box_event ?hg (N := 4) ?hd (cs := #[.int .i64 a0_0, .slice A0_1 l0_1.length c0_1]) (t := 33) ?hr ?_; (case hd => rfl); (case hg => rfl); (case hr => exact zz13); intro gb101 hg w19 hbox hb; have n0_ := Aside0.mk (below_step zz1 hb); have n1_ := Aside0.mk (hbox); have n2_ := Aside0.mk ((zz10 : w.heap.size ≤ gb101)); have n3_ := Aside0.mk ((zz10 : w.heap.size ≤ gb101)); clear HB; have HB := n0_; have BK101 := n1_; have GW101 := n2_; have GE101 := n3_; clear n0_ n1_ n2_ n3_; clear hb hbox hg; have hcz20_0 : w19.cell? ⟨gb101, 0, none⟩ = some (.int .i64 a0_0) := (blk_cell BK101.out 0).trans rfl; have hcz20_1 : w19.cell? ⟨gb101, 1, none⟩ = some (.slice A0_1 l0_1.length c0_1) := (blk_cell BK101.out 1).trans rfl; have hfz20_0 := blk_frozen BK101.out 0; have hfz20_1 := blk_frozen BK101.out 1) | ((with_reducible refine gate_callee (f := 41) rfl ?_); refine goesL_ (some 29) rfl rfl Try.func41 (by kernel_rfl) rfl #[.agg #[.int .i64 a0_0, .slice A0_1 l0_1.length c0_1], .int .i64 1048576] rfl zz3 ?_; (with_reducible refine (laws_szGraph.calls a0_0 _ _ l0_1 1048576 t102 _ ?side1 ?side2 A7.out).mono ?_); (case side1 => exact zz5); (case side2 => exact HC0_1.out); rintro e w21 ⟨rfl, hb⟩; refine ⟨_, rfl, ?_⟩; have n0_ := Aside0.mk (blk_below (g := gb101) (o := .cells #[.int .i64 a0_0, .slice A0_1 l0_1.length c0_1] 33 (0, 0)) zz2 hb); have n1_ := Aside0.mk (below_step zz0 hb); clear BK101; clear HB; have BK101 := n0_; have HB := n1_; clear n0_ n1_; (try clear hb); (try clear hb2); (try clear hk); (try clear hi); have hcz22_0 : w21.cell? ⟨gb101, 0, none⟩ = some (.int .i64 a0_0) := (blk_cell BK101.out 0).trans rfl; have hcz22_1 : w21.cell? ⟨gb101, 1, none⟩ = some (.slice A0_1 l0_1.length c0_1) := (blk_cell BK101.out 1).trans rfl; have hfz22_0 := blk_frozen BK101.out 0; have hfz22_1 := blk_frozen BK101.out 1) | ((with_reducible refine gate_callee (f := 43) rfl ?_); refine goesL_ (some 34) rfl rfl Try.func43 (by kernel_rfl) rfl #[.agg #[.int .i64 a0_0, .slice A0_1 l0_1.length c0_1]] rfl zz3 ?_; (with_reducible refine (laws_toGraph.calls k a0_0 _ _ l0_1 t103 t104 _ ?side1 ?side2 A12.out).mono ?_); (case side1 => exact zz5); (case side2 => exact HC0_1.out); rintro e w23 ⟨v105, rfl, ho0, hb⟩; refine ⟨_, rfl, ?_⟩; have n0_ := Aside0.mk (Kd.R_lower ho0 (below_size zz0)); have n1_ := Aside0.mk (blk_below (g := gb101) (o := .cells #[.int .i64 a0_0, .slice A0_1 l0_1.length c0_1] 33 (0, 0)) zz2 hb); have n2_ := Aside0.mk (below_step zz0 hb); clear BK101; clear HB; have HO106 := n0_; have BK101 := n1_; have HB := n2_; clear n0_ n1_ n2_; (try clear hb); (try clear hb2); (try clear hk); (try clear hi); (try clear ho0)) | ((with_reducible refine gate_callee (f := 44) rfl ?_); refine goesL_ (some 36) rfl rfl Try.func44 (by kernel_rfl) rfl #[.slice A1 l1.length c1] rfl zz3 ?_; (with_reducible refine (laws_toIntS.calls k _ _ l1 t107 _ ?side1 ?side2 A13.out).mono ?_); (case side1 => exact zz9); (case side2 => exact HC1.out); rintro e w24 ⟨v108, rfl, ho0, hb⟩; refine ⟨_, rfl, ?_⟩; have n0_ := Aside0.mk (Kd.R_below zz23 hb); have n1_ := Aside0.mk (Kd.R_lower ho0 (below_size zz0)); have n2_ := Aside0.mk (blk_below (g := gb101) (o := .cells #[.int .i64 a0_0, .slice A0_1 l0_1.length c0_1] 33 (0, 0)) zz2 hb); have n3_ := Aside0.mk (below_step zz0 hb); clear HO106; clear BK101; clear HB; have HO106 := n0_; have HO109 := n1_; have BK101 := n2_; have HB := n3_; clear n0_ n1_ n2_ n3_; (try clear hb); (try clear hb2); (try clear hk); (try clear hi); (try clear ho0); obtain ⟨Ao25, co25, eo25⟩ := Kd.R_slice HO106.out; subst eo25; obtain ⟨Ao26, co26, eo26⟩ := Kd.R_slice HO109.out; subst eo26) | ((with_reducible refine gate_callee (f := 80) rfl ?_); refine goesL_ (some 39) rfl rfl Try.func80 (by kernel_rfl) rfl #[.agg #[.int .i64 t103, .slice Ao25 t104.length co25], .slice Ao26 t107.length co26, .int .i64 a2, .int .i64 a3] rfl zz3 ?_; (with_reducible refine (spec_DropChip.calls k t103 _ _ t104 _ _ t107 a2 a3 t110 t113 t114 _ ?side1 ?side2 ?side3 ?side4 A14.out).mono ?_); (case side1 => repeat (first | exact (Kd.R_reads' HO106.out).2.2 | (with_reducible refine Kd.C_alloc ?_ _) | (with_reducible refine Kd.C_drewN ?_ _) | (with_reducible refine Kd.C_drew ?_))); (case side2 => exact (Kd.R_reads' HO106.out).2.1); (case side3 => repeat (first | exact (Kd.R_reads' HO109.out).2.2 | (with_reducible refine Kd.C_alloc ?_ _) | (with_reducible refine Kd.C_drewN ?_ _) | (with_reducible refine Kd.C_drew ?_))); (case side4 => exact (Kd.R_reads' HO109.out).2.1); rintro e w27 ⟨v111, rfl, ho0, hb⟩; refine ⟨_, rfl, ?_⟩; have n0_ := Aside0.mk (Kd.R_below zz23 hb); have n1_ := Aside0.mk (Kd.R_elder' zz24 (Kd.R_base ho0) hb); have n2_ := Aside0.mk (Kd.R_lower (Kd.R_new' ho0 (Kd.R_lt zz24)) (below_size zz0)); have n3_ := Aside0.mk (blk_below (g := gb101) (o := .cells #[.int .i64 a0_0, .slice A0_1 l0_1.length c0_1] 33 (0, 0)) zz2 hb); have n4_ := Aside0.mk (below_step zz0 hb); clear HO106; clear HO109; clear BK101; clear HB; have HO106 := n0_; have HO109 := n1_; have HO112 := n2_; have BK101 := n3_; have HB := n4_; clear n0_ n1_ n2_ n3_ n4_; (try clear hb); (try clear hb2); (try clear hk); (try clear hi); (try clear ho0); have hcz28_0 : w27.cell? ⟨gb101, 0, none⟩ = some (.int .i64 a0_0) := (blk_cell BK101.out 0).trans rfl; have hcz28_1 : w27.cell? ⟨gb101, 1, none⟩ = some (.slice A0_1 l0_1.length c0_1) := (blk_cell BK101.out 1).trans rfl; have hfz28_0 := blk_frozen BK101.out 0; have hfz28_1 := blk_frozen BK101.out 1) | ((with_reducible refine gate_callee (f := 43) rfl ?_); refine goesL_ (some 44) rfl rfl Try.func43 (by kernel_rfl) rfl #[.agg #[.int .i64 a0_0, .slice A0_1 l0_1.length c0_1]] rfl zz3 ?_; (with_reducible refine (laws_toGraph.calls k a0_0 _ _ l0_1 t115 t116 _ ?side1 ?side2 A15.out).mono ?_); (case side1 => exact zz5); (case side2 => exact HC0_1.out); rintro e w29 ⟨v117, rfl, ho0, hb⟩; refine ⟨_, rfl, ?_⟩; have n0_ := Aside0.mk (Kd.R_elder' zz23 (Kd.R_base ho0) hb); have n1_ := Aside0.mk (Kd.R_below zz24 hb); have n2_ := Aside0.mk (Kd.R_below (by (with_reducible repeat (first | apply Kd.R_alloc | apply Kd.R_drewN | apply Kd.R_drew)); exact HO112.out) hb); have n3_ := Aside0.mk (Kd.R_lower (Kd.R_new' ho0 (Kd.R_lt zz23)) (below_size zz0)); have n4_ := Aside0.mk (blk_below (g := gb101) (o := .cells #[.int .i64 a0_0, .slice A0_1 l0_1.length c0_1] 33 (0, 0)) zz2 hb); have n5_ := Aside0.mk (below_step zz0 hb); clear HO106; clear HO109; clear HO112; clear BK101; clear HB; have HO106 := n0_; have HO109 := n1_; have HO112 := n2_; have HO118 := n3_; have BK101 := n4_; have HB := n5_; clear n0_ n1_ n2_ n3_ n4_ n5_; (try clear hb); (try clear hb2); (try clear hk); (try clear hi); (try clear ho0)) | ((with_reducible refine gate_dst (N := 13) rfl ?_); refine box_event ?hg (N := 13) ?hd (cs := #[.int .i64 0, .slice none 0 0]) (t := 38) ?hr ?_; (case hd => rfl); (case hg => rfl); (case hr => exact zz13); intro gb119 hg w30 hbox hb; have n0_ := Aside0.mk (Kd.R_below zz23 hb); have n1_ := Aside0.mk (Kd.R_below zz24 hb); have n2_ := Aside0.mk (Kd.R_below (by (with_reducible repeat (first | apply Kd.R_alloc | apply Kd.R_drewN | apply Kd.R_drew)); exact HO112.out) hb); have n3_ := Aside0.mk (Kd.R_below (by (with_reducible repeat (first | apply Kd.R_alloc | apply Kd.R_drewN | apply Kd.R_drew)); exact HO118.out) hb); have n4_ := Aside0.mk (blk_below (g := gb101) (o := .cells #[.int .i64 a0_0, .slice A0_1 l0_1.length c0_1] 33 (0, 0)) zz2 hb); have n5_ := Aside0.mk (below_step zz0 hb); have n6_ := Aside0.mk (hbox); have n7_ := Aside0.mk ((zz15 : w.heap.size ≤ gb119)); have n8_ := Aside0.mk ((zz15 : w.heap.size ≤ gb119)); have n9_ := Aside0.mk ((by rw [hg]; exact Nat.ne_of_lt (blk_lt (g := gb101) (o := .cells #[.int .i64 a0_0, .slice A0_1 l0_1.length c0_1] 33 (0, 0)) zz2) : gb101 ≠ gb119)); have n10_ := Aside0.mk ((by rw [hg]; exact Nat.ne_of_gt (blk_lt (g := gb101) (o := .cells #[.int .i64 a0_0, .slice A0_1 l0_1.length c0_1] 33 (0, 0)) zz2) : gb119 ≠ gb101)); clear HO106; clear HO109; clear HO112; clear HO118; clear BK101; clear HB; have HO106 := n0_; have HO109 := n1_; have HO112 := n2_; have HO118 := n3_; have BK101 := n4_; have HB := n5_; have BK119 := n6_; have GW119 := n7_; have GE119 := n8_; have NB101_119 := n9_; have NB119_101 := n10_; clear n0_ n1_ n2_ n3_ n4_ n5_ n6_ n7_ n8_ n9_ n10_; clear hb hbox hg; have hnb31 := NB119_101.out; have hnc31 := NB101_119.out; have hcz32_0 : w30.cell? ⟨gb119, 0, none⟩ = some (.int .i64 0) := (blk_cell BK119.out 0).trans rfl; have hcz32_1 : w30.cell? ⟨gb119, 1, none⟩ = some (.slice none 0 0) := (blk_cell BK119.out 1).trans rfl; have hfz32_0 := blk_frozen BK119.out 0; have hfz32_1 := blk_frozen BK119.out 1; obtain ⟨Ao33, co33, eo33⟩ := Kd.R_slice HO118.out; subst eo33) | ((with_reducible refine gate_callee (f := 44) rfl ?_); refine goesL_ (some 46) rfl rfl Try.func44 (by kernel_rfl) rfl #[.slice A1 l1.length c1] rfl zz3 ?_; (with_reducible refine (laws_toIntS.calls k _ _ l1 t120 _ ?side1 ?side2 A16.out).mono ?_); (case side1 => exact Kd.C_below HR1.out zz14); (case side2 => exact HC1.out); rintro e w34 ⟨v121, rfl, ho0, hb⟩; refine ⟨_, rfl, ?_⟩; have n0_ := Aside0.mk (Kd.R_below (by (with_reducible repeat (first | apply Kd.R_alloc | apply Kd.R_drewN | apply Kd.R_drew)); exact (Kd.R_mono (Kd.R_far (p := ⟨gb119, 1, none⟩) (Kd.R_far (p := ⟨gb119, 0, none⟩) (Kd.R_types HO106.out BK119.out (by decide)) (fun _ hk => hk.2) (.int .i64 t115)) (fun _ hk => hk.2) (.slice Ao33 t116.length co33)) (fun _ h_ => h_.1))) hb); have n1_ := Aside0.mk (Kd.R_elder' zz58 (Kd.R_base ho0) hb); have n2_ := Aside0.mk (Kd.R_elder' zz59 (Kd.R_base ho0) hb); have n3_ := Aside0.mk (Kd.R_below (by (with_reducible repeat (first | apply Kd.R_alloc | apply Kd.R_drewN | apply Kd.R_drew)); exact (Kd.R_mono (Kd.R_far (p := ⟨gb119, 1, none⟩) (Kd.R_far (p := ⟨gb119, 0, none⟩) (Kd.R_types HO118.out BK119.out (by decide)) (fun _ hk => hk.2) (.int .i64 t115)) (fun _ hk => hk.2) (.slice Ao33 t116.length co33)) (fun _ h_ => h_.1))) hb); have n4_ := Aside0.mk (Kd.R_lower (Kd.R_new' (Kd.R_new' ho0 (Kd.R_lt zz58)) (Kd.R_lt zz59)) (below_size zz14)); have n5_ := Aside0.mk (blk_below (g := gb101) (o := .cells #[.int .i64 a0_0, .slice A0_1 l0_1.length c0_1] 33 (0, 0)) (by (with_reducible repeat (first | refine blk_drewN ?_ _ | refine blk_drew ?_ | refine blk_alloc ?_ _)); refine blk_far ?_ NB101_119.out _; (with_reducible repeat (first | refine blk_drewN ?_ _ | refine blk_drew ?_ | refine blk_alloc ?_ _)); refine blk_far ?_ NB101_119.out _; (with_reducible repeat (first | refine blk_drewN ?_ _ | refine blk_drew ?_ | refine blk_alloc ?_ _)); exact BK101.out) hb); have n6_ := Aside0.mk (blk_below (g := gb119) (o := .cells #[.int .i64 t115, .slice Ao33 t116.length co33] 38 (0, 0)) (by (with_reducible repeat (first | refine blk_drewN ?_ _ | refine blk_drew ?_ | refine blk_alloc ?_ _)); refine blk_put (cs := #[.int .i64 t115, .slice none 0 0]) ?_ 1 _ rfl; (with_reducible repeat (first | refine blk_drewN ?_ _ | refine blk_drew ?_ | refine blk_alloc ?_ _)); refine blk_put (cs := #[.int .i64 0, .slice none 0 0]) ?_ 0 _ rfl; (with_reducible repeat (first | refine blk_drewN ?_ _ | refine blk_drew ?_ | refine blk_alloc ?_ _)); exact BK119.out) hb); have n7_ := Aside0.mk (below_step zz14 hb); clear HO106; clear HO109; clear HO112; clear HO118; clear BK101; clear BK119; clear HB; have HO106 := n0_; have HO109 := n1_; have HO112 := n2_; have HO118 := n3_; have HO122 := n4_; have BK101 := n5_; have BK119 := n6_; have HB := n7_; clear n0_ n1_ n2_ n3_ n4_ n5_ n6_ n7_; (try clear hb); (try clear hb2); (try clear hk); (try clear hi); (try clear ho0); have hcz35_0 : w34.cell? ⟨gb119, 0, none⟩ = some (.int .i64 t115) := (blk_cell BK119.out 0).trans rfl; have hcz35_1 : w34.cell? ⟨gb119, 1, none⟩ = some (.slice Ao33 t116.length co33) := (blk_cell BK119.out 1).trans rfl; have hfz35_0 := blk_frozen BK119.out 0; have hfz35_1 := blk_frozen BK119.out 1; obtain ⟨Ao36, co36, eo36⟩ := Kd.R_slice HO122.out; subst eo36) | ((with_reducible refine gate_callee (f := 81) rfl ?_); refine goesL_ (some 52) rfl rfl Try.func81 (by kernel_rfl) rfl #[.agg #[.int .i64 t115, .slice Ao33 t116.length co33], .slice Ao36 t120.length co36, .int .i64 a2, .int .i64 a3] rfl zz3 ?_; (with_reducible refine (impl_DropChip.calls k t115 _ _ t116 _ _ t120 a2 a3 t123 t126 t127 _ ?side1 ?side2 ?side3 ?side4 A17.out).mono ?_); (case side1 => repeat (first | exact (Kd.R_reads' HO118.out).2.2 | (with_reducible refine Kd.C_alloc ?_ _) | (with_reducible refine Kd.C_drewN ?_ _) | (with_reducible refine Kd.C_drew ?_))); (case side2 => exact (Kd.R_reads' HO118.out).2.1); (case side3 => repeat (first | exact (Kd.R_reads' HO122.out).2.2 | (with_reducible refine Kd.C_alloc ?_ _) | (with_reducible refine Kd.C_drewN ?_ _) | (with_reducible refine Kd.C_drew ?_))); (case side4 => exact (Kd.R_reads' HO122.out).2.1); rintro e w37 ⟨v124, rfl, ho0, hb⟩; refine ⟨_, rfl, ?_⟩; have n0_ := Aside0.mk (Kd.R_below zz23 hb); have n1_ := Aside0.mk (Kd.R_elder' zz24 (Kd.R_base ho0) hb); have n2_ := Aside0.mk (Kd.R_elder' (by (with_reducible repeat (first | apply Kd.R_alloc | apply Kd.R_drewN | apply Kd.R_drew)); exact HO112.out) (Kd.R_base ho0) hb); have n3_ := Aside0.mk (Kd.R_below (by (with_reducible repeat (first | apply Kd.R_alloc | apply Kd.R_drewN | apply Kd.R_drew)); exact HO118.out) hb); have n4_ := Aside0.mk (Kd.R_elder' (by (with_reducible repeat (first | apply Kd.R_alloc | apply Kd.R_drewN | apply Kd.R_drew)); exact HO122.out) (Kd.R_base ho0) hb); have n5_ := Aside0.mk (Kd.R_lower (Kd.R_new' (Kd.R_new' (Kd.R_new' ho0 (Kd.R_lt zz24)) (Kd.R_lt (by (with_reducible repeat (first | apply Kd.R_alloc | apply Kd.R_drewN | apply Kd.R_drew)); exact HO112.out))) (Kd.R_lt (by (with_reducible repeat (first | apply Kd.R_alloc | apply Kd.R_drewN | apply Kd.R_drew)); exact HO122.out))) (below_size zz14)); have n6_ := Aside0.mk (blk_below (g := gb101) (o := .cells #[.int .i64 a0_0, .slice A0_1 l0_1.length c0_1] 33 (0, 0)) zz2 hb); have n7_ := Aside0.mk (blk_below (g := gb119) (o := .cells #[.int .i64 t115, .slice Ao33 t116.length co33] 38 (0, 0)) zz25 hb); have n8_ := Aside0.mk (below_step zz14 hb); clear HO106; clear HO109; clear HO112; clear HO118; clear HO122; clear BK101; clear BK119; clear HB; have HO106 := n0_; have HO109 := n1_; have HO112 := n2_; have HO118 := n3_; have HO122 := n4_; have HO125 := n5_; have BK101 := n6_; have BK119 := n7_; have HB := n8_; clear n0_ n1_ n2_ n3_ n4_ n5_ n6_ n7_ n8_; (try clear hb); (try clear hb2); (try clear hk); (try clear hi); (try clear ho0)))); (try simp only [Act.put, List.setIfInBounds_toArray, List.set_cons_zero, List.set_cons_succ]); go_cut [69] (fun v69 wc => ∃ (kq : Nat) (x69_17 : Bool), v69 = .bool x69_17 ∧ Aside0 (laws_FnExactDropChip.j0 kq l1 a2 a3 t110 t113 t114 t120 t123 t126 t127 x69_17 a0_0 l0_1 t115 t116 = some r) ∧ Aside0 (kq ≤ k) ∧ Aside0 (Kd.R (Kd.int .i64) 3 wc w.heap.size (fun k_ => some k_ ≠ ((.slice Ao36 t120.length co36) : Value).ownBlock ∧ some k_ ≠ (v124 : Value).ownBlock) v111 t110) ∧ Aside0 (Kd.R (Kd.int .i64) 3 wc w.heap.size (fun k_ => some k_ ≠ (v111 : Value).ownBlock ∧ some k_ ≠ (v124 : Value).ownBlock) (.slice Ao36 t120.length co36) t120) ∧ Aside0 (Kd.R (Kd.int .i64) 3 wc w.heap.size (fun k_ => some k_ ≠ (v111 : Value).ownBlock ∧ some k_ ≠ ((.slice Ao36 t120.length co36) : Value).ownBlock) v124 t123) ∧ Aside0 (Kd.R k70 70 wc w.heap.size (fun _ => True) (.slice Ao33 t116.length co33) t116) ∧ Aside0 (wc.heap[gb101]? = some (.cells #[.int .i64 a0_0, (.slice A0_1 l0_1.length c0_1)] 33 (0, 0))) ∧ Aside0 (wc.heap[gb119]? = some (.cells #[.int .i64 t115, (.slice Ao33 t116.length co33)] 38 (0, 0))) ∧ Aside0 (Below w.heap.size w wc))
  case first =>
    have H := HC18.out; clear HC18; replace H := Option.bind_eq_some_iff.mp H; obtain ⟨t128, A380, H⟩ := H; replace H : (if t128 = true then (if t126 = t113 then (laws_FnExactDropChip.j0 k l1 a2 a3 t110 t113 t114 t120 t123 t126 t127 (t127 != t114) a0_0 l0_1 t115 t116) else (laws_FnExactDropChip.j0 k l1 a2 a3 t110 t113 t114 t120 t123 t126 t127 true a0_0 l0_1 t115 t116)) else (laws_FnExactDropChip.j0 k l1 a2 a3 t110 t113 t114 t120 t123 t126 t127 true a0_0 l0_1 t115 t116)) = some r := H; have A38 := Aside0.mk A380; clear A380; by_cases c39 : t128 = true; rotate_left
    · replace c39 := Bool.eq_false_iff.mpr c39; subst c39; (have H1 : (laws_FnExactDropChip.j0 k l1 a2 a3 t110 t113 t114 t120 t123 t126 t127 true a0_0 l0_1 t115 t116) = some r := by rw [if_neg (show ¬ (false = true) by decide)] at H; exact H); clear H; have H := H1; clear H1; have H' := Aside0.mk H; clear H; obtain ⟨Ao45, co45, eo45⟩ := Kd.R_slice HO125.out; subst eo45; obtain ⟨Ao46, co46, eo46⟩ := Kd.R_slice HO112.out; subst eo46; (go_wp2_with (first | ((with_reducible refine gate_callee (f := 36) rfl ?_); refine goesL_ (some 58) rfl rfl Try.func36 (by kernel_rfl) rfl #[.slice Ao45 t123.length co45, .slice Ao46 t110.length co46] rfl zz3 ?_; (with_reducible refine (laws_eqIntS.calls k _ _ t123 _ _ t110 false _ ?side1 ?side2 ?side3 ?side4 A38.out).mono ?_); (case side1 => repeat (first | exact (Kd.R_reads' HO125.out).2.2 | (with_reducible refine Kd.C_alloc ?_ _) | (with_reducible refine Kd.C_drewN ?_ _) | (with_reducible refine Kd.C_drew ?_))); (case side2 => exact (Kd.R_reads' HO125.out).2.1); (case side3 => repeat (first | exact (Kd.R_reads' HO112.out).2.2 | (with_reducible refine Kd.C_alloc ?_ _) | (with_reducible refine Kd.C_drewN ?_ _) | (with_reducible refine Kd.C_drew ?_))); (case side4 => exact (Kd.R_reads' HO112.out).2.1); rintro e w' ⟨rfl, ⟨nd, rfl⟩⟩; refine ⟨_, rfl, ?_⟩))); (go_meet); case rel => exact ⟨_, (true), zz8, H', ⟨by first | omega | exact Nat.le_refl _⟩, ⟨by (with_reducible repeat (first | apply Kd.R_alloc | apply Kd.R_drewN | apply Kd.R_drew)); exact Kd.R_mono HO112.out (fun _ hk => ⟨hk.1.2, hk.2⟩)⟩, ⟨by (with_reducible repeat (first | apply Kd.R_alloc | apply Kd.R_drewN | apply Kd.R_drew)); exact Kd.R_mono HO122.out (fun _ hk => ⟨hk.1.2, hk.2⟩)⟩, ⟨by (with_reducible repeat (first | apply Kd.R_alloc | apply Kd.R_drewN | apply Kd.R_drew)); exact Kd.R_mono HO125.out (fun _ hk => ⟨hk.1.2, hk.2⟩)⟩, ⟨by (with_reducible repeat (first | apply Kd.R_alloc | apply Kd.R_drewN | apply Kd.R_drew)); exact Kd.R_mono HO118.out (fun _ hk => trivial)⟩, ⟨zz2⟩, ⟨zz25⟩, ⟨zz14⟩⟩
    subst c39; (have H1 : (if t126 = t113 then (laws_FnExactDropChip.j0 k l1 a2 a3 t110 t113 t114 t120 t123 t126 t127 (t127 != t114) a0_0 l0_1 t115 t116) else (laws_FnExactDropChip.j0 k l1 a2 a3 t110 t113 t114 t120 t123 t126 t127 true a0_0 l0_1 t115 t116)) = some r := by rw [if_pos rfl] at H; exact H); clear H; have H := H1; clear H1; by_cases c40 : t126 = t113; rotate_left
    · rw [if_neg c40] at H; have c40b0 : (t126 == t113) = false := beq_eq_false_iff_ne.mpr c40; have c40b1 : (t126 != t113) = true := bne_iff_ne.mpr c40; (first | rw [c40b0] | (simp only [i64_w, i32_w]; rw [c40b0]) | skip); have H' := Aside0.mk H; clear H; obtain ⟨Ao43, co43, eo43⟩ := Kd.R_slice HO125.out; subst eo43; obtain ⟨Ao44, co44, eo44⟩ := Kd.R_slice HO112.out; subst eo44; (go_wp2_with (first | ((with_reducible refine gate_callee (f := 36) rfl ?_); refine goesL_ (some 58) rfl rfl Try.func36 (by kernel_rfl) rfl #[.slice Ao43 t123.length co43, .slice Ao44 t110.length co44] rfl zz3 ?_; (with_reducible refine (laws_eqIntS.calls k _ _ t123 _ _ t110 true _ ?side1 ?side2 ?side3 ?side4 A38.out).mono ?_); (case side1 => repeat (first | exact (Kd.R_reads' HO125.out).2.2 | (with_reducible refine Kd.C_alloc ?_ _) | (with_reducible refine Kd.C_drewN ?_ _) | (with_reducible refine Kd.C_drew ?_))); (case side2 => exact (Kd.R_reads' HO125.out).2.1); (case side3 => repeat (first | exact (Kd.R_reads' HO112.out).2.2 | (with_reducible refine Kd.C_alloc ?_ _) | (with_reducible refine Kd.C_drewN ?_ _) | (with_reducible refine Kd.C_drew ?_))); (case side4 => exact (Kd.R_reads' HO112.out).2.1); rintro e w' ⟨rfl, ⟨nd, rfl⟩⟩; refine ⟨_, rfl, ?_⟩))); (go_meet); case rel => exact ⟨_, (true), zz8, H', ⟨by first | omega | exact Nat.le_refl _⟩, ⟨by (with_reducible repeat (first | apply Kd.R_alloc | apply Kd.R_drewN | apply Kd.R_drew)); exact Kd.R_mono HO112.out (fun _ hk => ⟨hk.1.2, hk.2⟩)⟩, ⟨by (with_reducible repeat (first | apply Kd.R_alloc | apply Kd.R_drewN | apply Kd.R_drew)); exact Kd.R_mono HO122.out (fun _ hk => ⟨hk.1.2, hk.2⟩)⟩, ⟨by (with_reducible repeat (first | apply Kd.R_alloc | apply Kd.R_drewN | apply Kd.R_drew)); exact Kd.R_mono HO125.out (fun _ hk => ⟨hk.1.2, hk.2⟩)⟩, ⟨by (with_reducible repeat (first | apply Kd.R_alloc | apply Kd.R_drewN | apply Kd.R_drew)); exact Kd.R_mono HO118.out (fun _ hk => trivial)⟩, ⟨zz2⟩, ⟨zz25⟩, ⟨zz14⟩⟩
    rw [if_pos c40] at H; have c40b0 : (t126 == t113) = true := beq_iff_eq.mpr c40; have c40b1 : (t126 != t113) = false := bne_eq_false_iff_eq.mpr c40; clear c40; (first | rw [c40b0] | (simp only [i64_w, i32_w]; rw [c40b0]) | skip); have H' := Aside0.mk H; clear H; obtain ⟨Ao41, co41, eo41⟩ := Kd.R_slice HO125.out; subst eo41; obtain ⟨Ao42, co42, eo42⟩ := Kd.R_slice HO112.out; subst eo42; (go_wp2_with (first | ((with_reducible refine gate_callee (f := 36) rfl ?_); refine goesL_ (some 58) rfl rfl Try.func36 (by kernel_rfl) rfl #[.slice Ao41 t123.length co41, .slice Ao42 t110.length co42] rfl zz3 ?_; (with_reducible refine (laws_eqIntS.calls k _ _ t123 _ _ t110 true _ ?side1 ?side2 ?side3 ?side4 A38.out).mono ?_); (case side1 => repeat (first | exact (Kd.R_reads' HO125.out).2.2 | (with_reducible refine Kd.C_alloc ?_ _) | (with_reducible refine Kd.C_drewN ?_ _) | (with_reducible refine Kd.C_drew ?_))); (case side2 => exact (Kd.R_reads' HO125.out).2.1); (case side3 => repeat (first | exact (Kd.R_reads' HO112.out).2.2 | (with_reducible refine Kd.C_alloc ?_ _) | (with_reducible refine Kd.C_drewN ?_ _) | (with_reducible refine Kd.C_drew ?_))); (case side4 => exact (Kd.R_reads' HO112.out).2.1); rintro e w' ⟨rfl, ⟨nd, rfl⟩⟩; refine ⟨_, rfl, ?_⟩))); (go_meet); case rel => exact ⟨_, ((t127 != t114)), zz8, H', ⟨by first | omega | exact Nat.le_refl _⟩, ⟨by (with_reducible repeat (first | apply Kd.R_alloc | apply Kd.R_drewN | apply Kd.R_drew)); exact Kd.R_mono HO112.out (fun _ hk => ⟨hk.1.2, hk.2⟩)⟩, ⟨by (with_reducible repeat (first | apply Kd.R_alloc | apply Kd.R_drewN | apply Kd.R_drew)); exact Kd.R_mono HO122.out (fun _ hk => ⟨hk.1.2, hk.2⟩)⟩, ⟨by (with_reducible repeat (first | apply Kd.R_alloc | apply Kd.R_drewN | apply Kd.R_drew)); exact Kd.R_mono HO125.out (fun _ hk => ⟨hk.1.2, hk.2⟩)⟩, ⟨by (with_reducible repeat (first | apply Kd.R_alloc | apply Kd.R_drewN | apply Kd.R_drew)); exact Kd.R_mono HO118.out (fun _ hk => trivial)⟩, ⟨zz2⟩, ⟨zz25⟩, ⟨zz14⟩⟩
  case rest =>
    clear HC18; (try clear c1); (try clear c2); (try clear p2); (try clear c3); (try clear c4); (try clear c5); (try clear c5b0); (try clear c5b1); (try clear c8); (try clear c8b0); (try clear c21); (try clear c31); (try clear c36); (try clear c39); (try clear c40); (try clear c40b0); (try clear c40b1); (try clear c41); (try clear c43); (try clear c44); (try clear hcz10_0); (try clear hcz10_1); (try clear hcz20_0); (try clear hcz20_1); (try clear hcz22_0); (try clear hcz22_1); (try clear hcz28_0); (try clear hcz28_1); (try clear hcz32_0); (try clear hcz32_1); (try clear hcz35_0); (try clear hcz35_1); (try clear hfz10_0); (try clear hfz10_1); (try clear hfz20_0); (try clear hfz20_1); (try clear hfz22_0); (try clear hfz22_1); (try clear hfz28_0); (try clear hfz28_1); (try clear hfz32_0); (try clear hfz32_1); (try clear hfz35_0); (try clear hfz35_1); obtain ⟨kq, x69_17, rfl, HA, HJ17, HO_10, HO_14, HO_15, HO_120001, BK101, BK119, HB⟩ := hcut
    cases kq with
    | zero => exact absurd HA.out (by simp [laws_FnExactDropChip.j0])
    | succ kj17 =>
      have H := HA.out; clear HA; simp only [laws_FnExactDropChip.j0] at H; by_cases c47 : x69_17 = true
      · subst c47; (have H1 : (none) = some r := by rw [if_pos rfl] at H; exact H); clear H; have H := H1; clear H1; exact absurd H (by simp)
      replace c47 := Bool.eq_false_iff.mpr c47; subst c47; (have H1 : ((laws_toGraph.f kj17 a0_0 l0_1).bind fun bt129 => ((laws_eqGraph.f kj17 t115 t116 bt129.1 bt129.2).bind fun t133 => (if t133 = true then ((laws_toIntS.f kj17 l1).bind fun t134 => ((laws_eqIntS.f kj17 t120 t134).bind fun t137 => (if t137 = true then ((laws_markGraph.f kj17 t115 t116 1).bind fun bt138 => ((laws_markIntS.f kj17 t120 bt138.1).bind fun bt140 => (if bt140.1 < 0 then (laws_FnExactDropChip.j1 kj17 l1 a2 a3 t110 t113 t114 t123 true a0_0 l0_1) else ((laws_eqIntS.f kj17 t123 t110).bind fun t142 => (if t142 = true then (if t126 = t113 then (laws_FnExactDropChip.j1 kj17 l1 a2 a3 t110 t113 t114 t123 (t127 != t114) a0_0 l0_1) else (laws_FnExactDropChip.j1 kj17 l1 a2 a3 t110 t113 t114 t123 true a0_0 l0_1)) else (laws_FnExactDropChip.j1 kj17 l1 a2 a3 t110 t113 t114 t123 true a0_0 l0_1)))))) else (none)))) else (none)))) = some r := by rw [if_neg (show ¬ (false = true) by decide)] at H; exact H); clear H; have H := H1; clear H1; replace H := Option.bind_eq_some_iff.mp H; obtain ⟨⟨t129, t130⟩, A480, H⟩ := H; replace H : ((laws_eqGraph.f kj17 t115 t116 t129 t130).bind fun t133 => (if t133 = true then ((laws_toIntS.f kj17 l1).bind fun t134 => ((laws_eqIntS.f kj17 t120 t134).bind fun t137 => (if t137 = true then ((laws_markGraph.f kj17 t115 t116 1).bind fun bt138 => ((laws_markIntS.f kj17 t120 bt138.1).bind fun bt140 => (if bt140.1 < 0 then (laws_FnExactDropChip.j1 kj17 l1 a2 a3 t110 t113 t114 t123 true a0_0 l0_1) else ((laws_eqIntS.f kj17 t123 t110).bind fun t142 => (if t142 = true then (if t126 = t113 then (laws_FnExactDropChip.j1 kj17 l1 a2 a3 t110 t113 t114 t123 (t127 != t114) a0_0 l0_1) else (laws_FnExactDropChip.j1 kj17 l1 a2 a3 t110 t113 t114 t123 true a0_0 l0_1)) else (laws_FnExactDropChip.j1 kj17 l1 a2 a3 t110 t113 t114 t123 true a0_0 l0_1)))))) else (none)))) else (none))) = some r := H; have A48 := Aside0.mk A480; clear A480; replace H := Option.bind_eq_some_iff.mp H; obtain ⟨t133, A490, H⟩ := H; replace H : (if t133 = true then ((laws_toIntS.f kj17 l1).bind fun t134 => ((laws_eqIntS.f kj17 t120 t134).bind fun t137 => (if t137 = true then ((laws_markGraph.f kj17 t115 t116 1).bind fun bt138 => ((laws_markIntS.f kj17 t120 bt138.1).bind fun bt140 => (if bt140.1 < 0 then (laws_FnExactDropChip.j1 kj17 l1 a2 a3 t110 t113 t114 t123 true a0_0 l0_1) else ((laws_eqIntS.f kj17 t123 t110).bind fun t142 => (if t142 = true then (if t126 = t113 then (laws_FnExactDropChip.j1 kj17 l1 a2 a3 t110 t113 t114 t123 (t127 != t114) a0_0 l0_1) else (laws_FnExactDropChip.j1 kj17 l1 a2 a3 t110 t113 t114 t123 true a0_0 l0_1)) else (laws_FnExactDropChip.j1 kj17 l1 a2 a3 t110 t113 t114 t123 true a0_0 l0_1)))))) else (none)))) else (none)) = some r := H; have A49 := Aside0.mk A490; clear A490; by_cases c50 : t133 = true; rotate_left
      · replace c50 := Bool.eq_false_iff.mpr c50; subst c50; (have H1 : (none) = some r := by rw [if_neg (show ¬ (false = true) by decide)] at H; exact H); clear H; have H := H1; clear H1; exact absurd H (by simp)
      subst c50; (have H1 : ((laws_toIntS.f kj17 l1).bind fun t134 => ((laws_eqIntS.f kj17 t120 t134).bind fun t137 => (if t137 = true then ((laws_markGraph.f kj17 t115 t116 1).bind fun bt138 => ((laws_markIntS.f kj17 t120 bt138.1).bind fun bt140 => (if bt140.1 < 0 then (laws_FnExactDropChip.j1 kj17 l1 a2 a3 t110 t113 t114 t123 true a0_0 l0_1) else ((laws_eqIntS.f kj17 t123 t110).bind fun t142 => (if t142 = true then (if t126 = t113 then (laws_FnExactDropChip.j1 kj17 l1 a2 a3 t110 t113 t114 t123 (t127 != t114) a0_0 l0_1) else (laws_FnExactDropChip.j1 kj17 l1 a2 a3 t110 t113 t114 t123 true a0_0 l0_1)) else (laws_FnExactDropChip.j1 kj17 l1 a2 a3 t110 t113 t114 t123 true a0_0 l0_1)))))) else (none)))) = some r := by rw [if_pos rfl] at H; exact H); clear H; have H := H1; clear H1; replace H := Option.bind_eq_some_iff.mp H; obtain ⟨t134, A510, H⟩ := H; replace H : ((laws_eqIntS.f kj17 t120 t134).bind fun t137 => (if t137 = true then ((laws_markGraph.f kj17 t115 t116 1).bind fun bt138 => ((laws_markIntS.f kj17 t120 bt138.1).bind fun bt140 => (if bt140.1 < 0 then (laws_FnExactDropChip.j1 kj17 l1 a2 a3 t110 t113 t114 t123 true a0_0 l0_1) else ((laws_eqIntS.f kj17 t123 t110).bind fun t142 => (if t142 = true then (if t126 = t113 then (laws_FnExactDropChip.j1 kj17 l1 a2 a3 t110 t113 t114 t123 (t127 != t114) a0_0 l0_1) else (laws_FnExactDropChip.j1 kj17 l1 a2 a3 t110 t113 t114 t123 true a0_0 l0_1)) else (laws_FnExactDropChip.j1 kj17 l1 a2 a3 t110 t113 t114 t123 true a0_0 l0_1)))))) else (none))) = some r := H; have A51 := Aside0.mk A510; clear A510; replace H := Option.bind_eq_some_iff.mp H; obtain ⟨t137, A520, H⟩ := H; replace H : (if t137 = true then ((laws_markGraph.f kj17 t115 t116 1).bind fun bt138 => ((laws_markIntS.f kj17 t120 bt138.1).bind fun bt140 => (if bt140.1 < 0 then (laws_FnExactDropChip.j1 kj17 l1 a2 a3 t110 t113 t114 t123 true a0_0 l0_1) else ((laws_eqIntS.f kj17 t123 t110).bind fun t142 => (if t142 = true then (if t126 = t113 then (laws_FnExactDropChip.j1 kj17 l1 a2 a3 t110 t113 t114 t123 (t127 != t114) a0_0 l0_1) else (laws_FnExactDropChip.j1 kj17 l1 a2 a3 t110 t113 t114 t123 true a0_0 l0_1)) else (laws_FnExactDropChip.j1 kj17 l1 a2 a3 t110 t113 t114 t123 true a0_0 l0_1)))))) else (none)) = some r := H; have A52 := Aside0.mk A520; clear A520; by_cases c53 : t137 = true; rotate_left
      · replace c53 := Bool.eq_false_iff.mpr c53; subst c53; (have H1 : (none) = some r := by rw [if_neg (show ¬ (false = true) by decide)] at H; exact H); clear H; have H := H1; clear H1; exact absurd H (by simp)
      subst c53; (have H1 : ((laws_markGraph.f kj17 t115 t116 1).bind fun bt138 => ((laws_markIntS.f kj17 t120 bt138.1).bind fun bt140 => (if bt140.1 < 0 then (laws_FnExactDropChip.j1 kj17 l1 a2 a3 t110 t113 t114 t123 true a0_0 l0_1) else ((laws_eqIntS.f kj17 t123 t110).bind fun t142 => (if t142 = true then (if t126 = t113 then (laws_FnExactDropChip.j1 kj17 l1 a2 a3 t110 t113 t114 t123 (t127 != t114) a0_0 l0_1) else (laws_FnExactDropChip.j1 kj17 l1 a2 a3 t110 t113 t114 t123 true a0_0 l0_1)) else (laws_FnExactDropChip.j1 kj17 l1 a2 a3 t110 t113 t114 t123 true a0_0 l0_1)))))) = some r := by rw [if_pos rfl] at H; exact H); clear H; have H := H1; clear H1; replace H := Option.bind_eq_some_iff.mp H; obtain ⟨⟨t138, t139⟩, A540, H⟩ := H; replace H : ((laws_markIntS.f kj17 t120 t138).bind fun bt140 => (if bt140.1 < 0 then (laws_FnExactDropChip.j1 kj17 l1 a2 a3 t110 t113 t114 t123 true a0_0 l0_1) else ((laws_eqIntS.f kj17 t123 t110).bind fun t142 => (if t142 = true then (if t126 = t113 then (laws_FnExactDropChip.j1 kj17 l1 a2 a3 t110 t113 t114 t123 (t127 != t114) a0_0 l0_1) else (laws_FnExactDropChip.j1 kj17 l1 a2 a3 t110 t113 t114 t123 true a0_0 l0_1)) else (laws_FnExactDropChip.j1 kj17 l1 a2 a3 t110 t113 t114 t123 true a0_0 l0_1))))) = some r := H; have A54 := Aside0.mk A540; clear A540; replace H := Option.bind_eq_some_iff.mp H; obtain ⟨⟨t140, t141⟩, A550, H⟩ := H; replace H : (if t140 < 0 then (laws_FnExactDropChip.j1 kj17 l1 a2 a3 t110 t113 t114 t123 true a0_0 l0_1) else ((laws_eqIntS.f kj17 t123 t110).bind fun t142 => (if t142 = true then (if t126 = t113 then (laws_FnExactDropChip.j1 kj17 l1 a2 a3 t110 t113 t114 t123 (t127 != t114) a0_0 l0_1) else (laws_FnExactDropChip.j1 kj17 l1 a2 a3 t110 t113 t114 t123 true a0_0 l0_1)) else (laws_FnExactDropChip.j1 kj17 l1 a2 a3 t110 t113 t114 t123 true a0_0 l0_1)))) = some r := H; have A55 := Aside0.mk A550; clear A550; have HC56 := Aside0.mk H; clear H; (try go_wp2); have n0_ := Aside0.mk (Kd.R_drew HO_10.out); have n1_ := Aside0.mk (Kd.R_drew HO_14.out); have n2_ := Aside0.mk (Kd.R_drew HO_15.out); have n3_ := Aside0.mk (Kd.R_drew HO_120001.out); have n4_ := Aside0.mk (blk_drew BK101.out); have n5_ := Aside0.mk (blk_drew BK119.out); have n6_ := Aside0.mk (below_drew1 HB.out); clear HO_10; clear HO_14; clear HO_15; clear HO_120001; clear BK101; clear BK119; clear HB; have HO_10 := n0_; have HO_14 := n1_; have HO_15 := n2_; have HO_120001 := n3_; have BK101 := n4_; have BK119 := n5_; have HB := n6_; clear n0_ n1_ n2_ n3_ n4_ n5_ n6_; refine start_ (n := 5) (S := fun w' => w'.cell? ⟨gb119, 0, none⟩ = some (.int .i64 t115) ∧ w'.cell? ⟨gb119, 1, none⟩ = some (.slice Ao33 t116.length co33) ∧ w'.cell? ⟨gb101, 0, none⟩ = some (.int .i64 a0_0) ∧ w'.cell? ⟨gb101, 1, none⟩ = some (.slice A0_1 l0_1.length c0_1)) (ds := []) #[false, false, false, false, false] (by kernel_rfl) rfl rfl ⟨(blk_cell BK119.out 0).trans rfl, (blk_cell BK119.out 1).trans rfl, (blk_cell BK101.out 0).trans rfl, (blk_cell BK101.out 1).trans rfl⟩ (fun hHeld => ?_); generalize wc.drew = w57 at HO_10 HO_14 HO_15 HO_120001 BK101 BK119 HB hHeld ⊢; refine take_ (i := 0) (N := some 70) (v := ?_) (a' := ?_) #[true, false, false, false, false] rfl rfl (by kernel_rfl) (fun _ _ _ h => h) (Or.inl ⟨by rfl, ?_⟩) hHeld ?_ ?_; rotate_left
      · rintro w' ⟨s0, s1, s2, s3⟩; exact zzT
      rotate_left
      · exact zzS
      refine take_ (i := 1) (N := some 71) (v := ?_) (a' := ?_) #[true, true, false, false, false] rfl rfl (by kernel_rfl) (fun _ _ _ h => h) (Or.inl ⟨by rfl, ?_⟩) hHeld ?_ ?_; rotate_left
      · rintro w' ⟨s0, s1, s2, s3⟩; exact zzT
      rotate_left
      · exact zzS
      refine one_ (i := 2) (N := some 72) #[true, true, true, false, false] rfl rfl (by kernel_rfl) (by decide) (fun K hK => ?_); refine goes_ Try.func43 (by kernel_rfl) rfl #[.agg #[.int .i64 a0_0, .slice A0_1 l0_1.length c0_1]] (by rfl) rfl rfl zz3 ?_; (with_reducible refine (laws_toGraph.calls kj17 a0_0 _ _ l0_1 t129 t130 _ ?side1 ?side2 A48.out).mono ?_); (case side1 => exact zz5); (case side2 => exact HC0_1.out); rintro e w58 ⟨v131, rfl, ho0, hb⟩; refine ⟨_, rfl, ?_⟩; have n0_ := Aside0.mk (Kd.R_below zz27 hb); have n1_ := Aside0.mk (Kd.R_below (by (with_reducible repeat (first | apply Kd.R_alloc | apply Kd.R_drewN | apply Kd.R_drew)); exact HO_14.out) hb); have n2_ := Aside0.mk (Kd.R_below zz28 hb); have n3_ := Aside0.mk (Kd.R_elder' zz33 (Kd.R_base ho0) hb); have n4_ := Aside0.mk (Kd.R_lower (Kd.R_new' ho0 (Kd.R_lt zz33)) (below_size zz14)); have n5_ := Aside0.mk (blk_below (g := gb101) (o := .cells #[.int .i64 a0_0, .slice A0_1 l0_1.length c0_1] 33 (0, 0)) zz2 hb); have n6_ := Aside0.mk (blk_below (g := gb119) (o := .cells #[.int .i64 t115, .slice Ao33 t116.length co33] 38 (0, 0)) zz25 hb); have n7_ := Aside0.mk (below_step zz14 hb); clear HO_10; clear HO_14; clear HO_15; clear HO_120001; clear BK101; clear BK119; clear HB; have HO_10 := n0_; have HO_14 := n1_; have HO_15 := n2_; have HO_120001 := n3_; have HO132 := n4_; have BK101 := n5_; have BK119 := n6_; have HB := n7_; clear n0_ n1_ n2_ n3_ n4_ n5_ n6_ n7_; (try clear hb); (try clear hb2); (try clear hk); (try clear hi); (try clear ho0); obtain ⟨Ao59, co59, eo59⟩ := Kd.R_slice HO132.out; (first | subst eo59 | (injection eo59 with f1_ f2_ f3_; have f4_ := f1_.symm; have f5_ := f3_.symm; clear f1_ f2_ f3_; subst f4_; subst f5_)); refine hK.out _ _ ⟨(blk_cell BK119.out 0).trans rfl, (blk_cell BK119.out 1).trans rfl, (blk_cell BK101.out 0).trans rfl, (blk_cell BK101.out 1).trans rfl⟩ (fun hHeld => ?_); clear hK K; refine norm_ (a' := ?_) ?_ ?_; rotate_left
      · show Act.put _ (some 72) _ = _; exact zzS
      refine one_ (i := 3) (N := some 73) #[true, true, true, true, false] rfl rfl (by kernel_rfl) (by decide) (fun K hK => ?_); refine goes_ Try.func46 (by kernel_rfl) rfl #[.agg #[.int .i64 t115, .slice Ao33 t116.length co33], .agg #[.int .i64 t129, .slice Ao59 t130.length co59]] (by rfl) rfl rfl zz3 ?_; (with_reducible refine (laws_eqGraph.calls kj17 t115 _ _ t116 t129 _ _ t130 true _ ?side1 ?side2 ?side3 ?side4 A49.out).mono ?_); (case side1 => repeat (first | exact (Kd.R_reads' HO_120001.out).2.2 | (with_reducible refine Kd.C_alloc ?_ _) | (with_reducible refine Kd.C_drewN ?_ _) | (with_reducible refine Kd.C_drew ?_))); (case side2 => exact (Kd.R_reads' HO_120001.out).2.1); (case side3 => repeat (first | exact (Kd.R_reads' HO132.out).2.2 | (with_reducible refine Kd.C_alloc ?_ _) | (with_reducible refine Kd.C_drewN ?_ _) | (with_reducible refine Kd.C_drew ?_))); (case side4 => exact (Kd.R_reads' HO132.out).2.1); rintro e w60 ⟨rfl, hb⟩; refine ⟨_, rfl, ?_⟩; have n0_ := Aside0.mk (Kd.R_below zz27 hb); have n1_ := Aside0.mk (Kd.R_below (by (with_reducible repeat (first | apply Kd.R_alloc | apply Kd.R_drewN | apply Kd.R_drew)); exact HO_14.out) hb); have n2_ := Aside0.mk (Kd.R_below zz28 hb); have n3_ := Aside0.mk (Kd.R_below zz33 hb); have n4_ := Aside0.mk (Kd.R_below (by (with_reducible repeat (first | apply Kd.R_alloc | apply Kd.R_drewN | apply Kd.R_drew)); exact HO132.out) hb); have n5_ := Aside0.mk (blk_below (g := gb101) (o := .cells #[.int .i64 a0_0, .slice A0_1 l0_1.length c0_1] 33 (0, 0)) zz2 hb); have n6_ := Aside0.mk (blk_below (g := gb119) (o := .cells #[.int .i64 t115, .slice Ao33 t116.length co33] 38 (0, 0)) zz25 hb); have n7_ := Aside0.mk (below_step zz14 hb); clear HO_10; clear HO_14; clear HO_15; clear HO_120001; clear HO132; clear BK101; clear BK119; clear HB; have HO_10 := n0_; have HO_14 := n1_; have HO_15 := n2_; have HO_120001 := n3_; have HO132 := n4_; have BK101 := n5_; have BK119 := n6_; have HB := n7_; clear n0_ n1_ n2_ n3_ n4_ n5_ n6_ n7_; (try clear hb); (try clear hb2); (try clear hk); (try clear hi); refine hK.out _ _ ⟨(blk_cell BK119.out 0).trans rfl, (blk_cell BK119.out 1).trans rfl, (blk_cell BK101.out 0).trans rfl, (blk_cell BK101.out 1).trans rfl⟩ (fun hHeld => ?_); clear hK K; refine norm_ (a' := ?_) ?_ ?_; rotate_left
      · show Act.put _ (some 73) _ = _; exact zzS
      refine pure_ (i := 4) (N := some 74) (v := ?_) (a' := ?_) #[true, true, true, true, true] rfl rfl (by kernel_rfl) (fun _ _ _ h => h) (Or.inl ⟨by rfl, ?_⟩) ?_ ?_; rotate_left
      · intro w'; exact zzT
      rotate_left
      · exact zzS
      refine done_ (by kernel_rfl) ?_; (go_upto_region 20 with (first | ((with_reducible refine gate_callee (f := 44) rfl ?_); refine goesL_ (some 77) rfl rfl Try.func44 (by kernel_rfl) rfl #[.slice A1 l1.length c1] rfl zz3 ?_; (with_reducible refine (laws_toIntS.calls kj17 _ _ l1 t134 _ ?side1 ?side2 A51.out).mono ?_); (case side1 => exact zz9); (case side2 => exact HC1.out); rintro e w61 ⟨v135, rfl, ho0, hb⟩; refine ⟨_, rfl, ?_⟩; have n0_ := Aside0.mk (Kd.R_elder' zz27 (Kd.R_base ho0) hb); have n1_ := Aside0.mk (Kd.R_elder' (by (with_reducible repeat (first | apply Kd.R_alloc | apply Kd.R_drewN | apply Kd.R_drew)); exact HO_14.out) (Kd.R_base ho0) hb); have n2_ := Aside0.mk (Kd.R_elder' zz28 (Kd.R_base ho0) hb); have n3_ := Aside0.mk (Kd.R_below zz33 hb); have n4_ := Aside0.mk (Kd.R_below (by (with_reducible repeat (first | apply Kd.R_alloc | apply Kd.R_drewN | apply Kd.R_drew)); exact HO132.out) hb); have n5_ := Aside0.mk (Kd.R_lower (Kd.R_new' (Kd.R_new' (Kd.R_new' ho0 (Kd.R_lt zz27)) (Kd.R_lt (by (with_reducible repeat (first | apply Kd.R_alloc | apply Kd.R_drewN | apply Kd.R_drew)); exact HO_14.out))) (Kd.R_lt zz28)) (below_size zz14)); have n6_ := Aside0.mk (blk_below (g := gb101) (o := .cells #[.int .i64 a0_0, .slice A0_1 l0_1.length c0_1] 33 (0, 0)) zz2 hb); have n7_ := Aside0.mk (blk_below (g := gb119) (o := .cells #[.int .i64 t115, .slice Ao33 t116.length co33] 38 (0, 0)) zz25 hb); have n8_ := Aside0.mk (below_step zz14 hb); clear HO_10; clear HO_14; clear HO_15; clear HO_120001; clear HO132; clear BK101; clear BK119; clear HB; have HO_10 := n0_; have HO_14 := n1_; have HO_15 := n2_; have HO_120001 := n3_; have HO132 := n4_; have HO136 := n5_; have BK101 := n6_; have BK119 := n7_; have HB := n8_; clear n0_ n1_ n2_ n3_ n4_ n5_ n6_ n7_ n8_; (try clear hb); (try clear hb2); (try clear hk); (try clear hi); (try clear ho0); obtain ⟨Ao62, co62, eo62⟩ := Kd.R_slice HO136.out; subst eo62) | ((with_reducible refine gate_callee (f := 36) rfl ?_); refine goesL_ (some 78) rfl rfl Try.func36 (by kernel_rfl) rfl #[.slice Ao36 t120.length co36, .slice Ao62 t134.length co62] rfl zz3 ?_; (with_reducible refine (laws_eqIntS.calls kj17 _ _ t120 _ _ t134 true _ ?side1 ?side2 ?side3 ?side4 A52.out).mono ?_); (case side1 => repeat (first | exact (Kd.R_reads' HO_14.out).2.2 | (with_reducible refine Kd.C_alloc ?_ _) | (with_reducible refine Kd.C_drewN ?_ _) | (with_reducible refine Kd.C_drew ?_))); (case side2 => exact (Kd.R_reads' HO_14.out).2.1); (case side3 => repeat (first | exact (Kd.R_reads' HO136.out).2.2 | (with_reducible refine Kd.C_alloc ?_ _) | (with_reducible refine Kd.C_drewN ?_ _) | (with_reducible refine Kd.C_drew ?_))); (case side4 => exact (Kd.R_reads' HO136.out).2.1); rintro e w' ⟨rfl, ⟨nd, rfl⟩⟩; refine ⟨_, rfl, ?_⟩; have hnb63 := NB119_101.out; have hnc63 := NB101_119.out; have hcz64_0 : w61.cell? ⟨gb119, 0, none⟩ = some (.int .i64 t115) := (blk_cell BK119.out 0).trans rfl; have hcz64_1 : w61.cell? ⟨gb119, 1, none⟩ = some (.slice Ao33 t116.length co33) := (blk_cell BK119.out 1).trans rfl; have hfz64_0 := blk_frozen BK119.out 0; have hfz64_1 := blk_frozen BK119.out 1) | ((with_reducible refine gate_callee (f := 49) rfl ?_); refine goesL_ (some 82) rfl rfl Try.func49 (by kernel_rfl) rfl #[.agg #[.int .i64 t115, .slice Ao33 t116.length co33], .int .i64 1] rfl zz3 ?_; (with_reducible refine (laws_markGraph.calls kj17 t115 (fun k_ => some k_ = (.slice Ao33 t116.length co33 : Value).ownBlock) (.slice Ao33 t116.length co33) t116 1 t138 t139 w _ ?side1 ?side2 A54.out).mono ?_); (case side1 => exact zz14); (case side2 => exact Kd.R_tight rfl HO_120001.out); rintro e w65 ⟨rfl, hy0, hb, hkp⟩; refine ⟨_, rfl, ?_⟩; have n0_ := Aside0.mk (Kd.R_mono (ok' := fun k_ => some k_ ≠ (.slice Ao36 t120.length co36 : Value).ownBlock ∧ some k_ ≠ (v124 : Value).ownBlock ∧ some k_ ≠ (.slice Ao62 t134.length co62 : Value).ownBlock) (Kd.R_keptB ((Kd.R_apart' HO_10.out (Kd.R_typed HO_120001.out) (by decide))) hkp (fun k_ hk_ hs_ => (hk_.2) hs_)) (fun k_ hk_ => ⟨hk_.1.1.1.1, hk_.1.1.1.2, hk_.1.1.2⟩)); have n1_ := Aside0.mk (Kd.R_mono (ok' := fun k_ => some k_ ≠ (v111 : Value).ownBlock ∧ some k_ ≠ (v124 : Value).ownBlock ∧ some k_ ≠ (.slice Ao62 t134.length co62 : Value).ownBlock) (Kd.R_keptB ((Kd.R_apart' HO_14.out (Kd.R_typed HO_120001.out) (by decide))) hkp (fun k_ hk_ hs_ => (hk_.2) hs_)) (fun k_ hk_ => ⟨hk_.1.1.1.1, hk_.1.1.1.2, hk_.1.1.2⟩)); have n2_ := Aside0.mk (Kd.R_mono (ok' := fun k_ => some k_ ≠ (v111 : Value).ownBlock ∧ some k_ ≠ (.slice Ao36 t120.length co36 : Value).ownBlock ∧ some k_ ≠ (.slice Ao62 t134.length co62 : Value).ownBlock) (Kd.R_keptB ((Kd.R_apart' HO_15.out (Kd.R_typed HO_120001.out) (by decide))) hkp (fun k_ hk_ hs_ => (hk_.2) hs_)) (fun k_ hk_ => ⟨hk_.1.1.1.1, hk_.1.1.1.2, hk_.1.1.2⟩)); have n3_ := Aside0.mk (Kd.R_reok rfl hy0 (fun k_ e_ => HO_120001.out.1 k_ e_)); have n4_ := Aside0.mk (blk_kept zz2 hkp (fun hs_ => (fun e_ => (Kd.R_ne HO_120001.out BK101.out (by decide)) e_) hs_)); have n5_ := Aside0.mk (blk_kept zz25 hkp (fun hs_ => (fun e_ => (Kd.R_ne HO_120001.out BK119.out (by decide)) e_) hs_)); have n6_ := Aside0.mk (Kd.R_mono (ok' := fun k_ => some k_ ≠ (.slice Ao33 t116.length co33 : Value).ownBlock) (Kd.R_keptB (HO132.out) hkp (fun k_ hk_ hs_ => (hk_.2) hs_)) (fun k_ hk_ => hk_.1.2)); have n7_ := Aside0.mk (Kd.R_mono (ok' := fun k_ => some k_ ≠ (v111 : Value).ownBlock ∧ some k_ ≠ (.slice Ao36 t120.length co36 : Value).ownBlock ∧ some k_ ≠ (v124 : Value).ownBlock) (Kd.R_keptB ((Kd.R_apart' HO136.out (Kd.R_typed HO_120001.out) (by decide))) hkp (fun k_ hk_ hs_ => (hk_.2) hs_)) (fun k_ hk_ => ⟨hk_.1.1.1.1.2, hk_.1.1.1.2, hk_.1.1.2⟩)); have n8_ := Aside0.mk (hb); clear HO_10; clear HO_14; clear HO_15; clear HO_120001; clear BK101; clear BK119; clear HO132; clear HO136; clear HB; have HO_10 := n0_; have HO_14 := n1_; have HO_15 := n2_; have HO_120001 := n3_; have BK101 := n4_; have BK119 := n5_; have HO132 := n6_; have HO136 := n7_; have HB := n8_; clear n0_ n1_ n2_ n3_ n4_ n5_ n6_ n7_ n8_; (try clear hb); (try clear hkp); (try clear hy0)) | ((with_reducible refine gate_callee (f := 39) rfl ?_); refine goesL_ (some 85) rfl rfl Try.func39 (by kernel_rfl) rfl #[.slice Ao36 t120.length co36, .int .i64 t138] rfl zz3 ?_; (with_reducible refine (laws_markIntS.calls kj17 (fun k_ => some k_ = (.slice Ao36 t120.length co36 : Value).ownBlock) (.slice Ao36 t120.length co36) t120 t138 t140 t141 w _ ?side1 ?side2 A55.out).mono ?_); (case side1 => exact zz14); (case side2 => exact Kd.R_tight rfl HO_14.out); rintro e w66 ⟨rfl, hy0, hb, hkp⟩; refine ⟨_, rfl, ?_⟩; have n0_ := Aside0.mk (Kd.R_mono (ok' := fun k_ => some k_ ≠ (.slice Ao36 t120.length co36 : Value).ownBlock ∧ some k_ ≠ (v124 : Value).ownBlock ∧ some k_ ≠ (.slice Ao62 t134.length co62 : Value).ownBlock) (Kd.R_keptB (HO_10.out) hkp (fun k_ hk_ hs_ => (hk_.1) hs_)) (fun k_ hk_ => ⟨hk_.1.1, hk_.1.2.1, hk_.1.2.2⟩)); have n1_ := Aside0.mk (Kd.R_reok rfl hy0 (fun k_ e_ => HO_14.out.1 k_ e_)); have n2_ := Aside0.mk (Kd.R_mono (ok' := fun k_ => some k_ ≠ (v111 : Value).ownBlock ∧ some k_ ≠ (.slice Ao36 t120.length co36 : Value).ownBlock ∧ some k_ ≠ (.slice Ao62 t134.length co62 : Value).ownBlock) (Kd.R_keptB (HO_15.out) hkp (fun k_ hk_ hs_ => (hk_.2.1) hs_)) (fun k_ hk_ => ⟨hk_.1.1, hk_.1.2.1, hk_.1.2.2⟩)); have n3_ := Aside0.mk (Kd.R_mono (ok' := fun k_ => some k_ ≠ (.slice Ao59 t130.length co59 : Value).ownBlock) (Kd.R_keptB ((Kd.R_apart' HO_120001.out (Kd.R_typed HO_14.out) (by decide))) hkp (fun k_ hk_ hs_ => (hk_.2) hs_)) (fun k_ hk_ => hk_.1.1.2)); have n4_ := Aside0.mk (blk_kept zz2 hkp (fun hs_ => (fun e_ => (Kd.R_ne HO_14.out BK101.out (by decide)) e_) hs_)); have n5_ := Aside0.mk (blk_kept zz25 hkp (fun hs_ => (fun e_ => (Kd.R_ne HO_14.out BK119.out (by decide)) e_) hs_)); have n6_ := Aside0.mk (Kd.R_mono (ok' := fun k_ => some k_ ≠ (.slice Ao33 t116.length co33 : Value).ownBlock) (Kd.R_keptB ((Kd.R_apart' HO132.out (Kd.R_typed HO_14.out) (by decide))) hkp (fun k_ hk_ hs_ => (hk_.2) hs_)) (fun k_ hk_ => hk_.1.1)); have n7_ := Aside0.mk (Kd.R_mono (ok' := fun k_ => some k_ ≠ (v111 : Value).ownBlock ∧ some k_ ≠ (.slice Ao36 t120.length co36 : Value).ownBlock ∧ some k_ ≠ (v124 : Value).ownBlock) (Kd.R_keptB (HO136.out) hkp (fun k_ hk_ hs_ => (hk_.2.1) hs_)) (fun k_ hk_ => ⟨hk_.1.1, hk_.1.2.1, hk_.1.2.2⟩)); have n8_ := Aside0.mk (hb); clear HO_10; clear HO_14; clear HO_15; clear HO_120001; clear BK101; clear BK119; clear HO132; clear HO136; clear HB; have HO_10 := n0_; have HO_14 := n1_; have HO_15 := n2_; have HO_120001 := n3_; have BK101 := n4_; have BK119 := n5_; have HO132 := n6_; have HO136 := n7_; have HB := n8_; clear n0_ n1_ n2_ n3_ n4_ n5_ n6_ n7_ n8_; (try clear hb); (try clear hkp); (try clear hy0)))); (try simp only [Act.put, List.setIfInBounds_toArray, List.set_cons_zero, List.set_cons_succ]); go_cut [103] (fun v103 wc => ∃ (kq : Nat) (x103_55 : Bool), v103 = .bool x103_55 ∧ Aside0 (laws_FnExactDropChip.j1 kq l1 a2 a3 t110 t113 t114 t123 x103_55 a0_0 l0_1 = some r) ∧ Aside0 (kq ≤ kj17) ∧ Aside0 (Kd.R (Kd.int .i64) 3 wc w.heap.size (fun k_ => some k_ ≠ (v124 : Value).ownBlock) v111 t110) ∧ Aside0 (Kd.R (Kd.int .i64) 3 wc w.heap.size (fun k_ => some k_ ≠ (v111 : Value).ownBlock) v124 t123) ∧ Aside0 (Kd.R k70 70 wc w.heap.size (fun _ => True) (.slice Ao33 t116.length co33) t139) ∧ Aside0 (wc.heap[gb101]? = some (.cells #[.int .i64 a0_0, (.slice A0_1 l0_1.length c0_1)] 33 (0, 0))) ∧ Aside0 (wc.heap[gb119]? = some (.cells #[.int .i64 t115, (.slice Ao33 t116.length co33)] 38 (0, 0))) ∧ Aside0 (Below w.heap.size w wc))
      case first =>
        have H := HC56.out; clear HC56; by_cases c67 : t140 < 0
        · rw [if_pos c67] at H; have c67b0 : decide (t140 < 0) = true := decide_eq_true c67; clear c67; (first | rw [c67b0] | (simp only [i64_w, i32_w]; rw [c67b0]) | skip); have H' := Aside0.mk H; clear H; go_wp2; (go_meet); case rel => exact ⟨_, (true), zz8, H', ⟨by have := HJ17.out; first | omega | exact Nat.le_refl _⟩, ⟨zz49⟩, ⟨zz50⟩, ⟨zz48⟩, ⟨zz2⟩, ⟨zz25⟩, ⟨zz14⟩⟩
        rw [if_neg c67] at H; have c67b0 : decide (t140 < 0) = false := decide_eq_false c67; clear c67; (first | rw [c67b0] | (simp only [i64_w, i32_w]; rw [c67b0]) | skip); replace H := Option.bind_eq_some_iff.mp H; obtain ⟨t142, A680, H⟩ := H; replace H : (if t142 = true then (if t126 = t113 then (laws_FnExactDropChip.j1 kj17 l1 a2 a3 t110 t113 t114 t123 (t127 != t114) a0_0 l0_1) else (laws_FnExactDropChip.j1 kj17 l1 a2 a3 t110 t113 t114 t123 true a0_0 l0_1)) else (laws_FnExactDropChip.j1 kj17 l1 a2 a3 t110 t113 t114 t123 true a0_0 l0_1)) = some r := H; have A68 := Aside0.mk A680; clear A680; by_cases c69 : t142 = true; rotate_left
        · replace c69 := Bool.eq_false_iff.mpr c69; subst c69; (have H1 : (laws_FnExactDropChip.j1 kj17 l1 a2 a3 t110 t113 t114 t123 true a0_0 l0_1) = some r := by rw [if_neg (show ¬ (false = true) by decide)] at H; exact H); clear H; have H := H1; clear H1; have H' := Aside0.mk H; clear H; obtain ⟨Ao75, co75, eo75⟩ := Kd.R_slice HO_15.out; subst eo75; obtain ⟨Ao76, co76, eo76⟩ := Kd.R_slice HO_10.out; subst eo76; (go_wp2_with (first | (go_at_call 36; (with_reducible refine (laws_eqIntS.calls kj17 _ _ t123 _ _ t110 false _ ?side1 ?side2 ?side3 ?side4 A68.out).mono ?_); (case side1 => exact zz38); (case side2 => exact (Kd.R_reads' HO_15.out).2.1); (case side3 => exact zz31); (case side4 => exact (Kd.R_reads' HO_10.out).2.1); rintro e w' ⟨rfl, ⟨nd, rfl⟩⟩))); (go_meet); case rel => exact ⟨_, (true), zz8, H', ⟨by have := HJ17.out; first | omega | exact Nat.le_refl _⟩, ⟨zz49⟩, ⟨zz50⟩, ⟨zz48⟩, ⟨zz2⟩, ⟨zz25⟩, ⟨zz14⟩⟩
        subst c69; (have H1 : (if t126 = t113 then (laws_FnExactDropChip.j1 kj17 l1 a2 a3 t110 t113 t114 t123 (t127 != t114) a0_0 l0_1) else (laws_FnExactDropChip.j1 kj17 l1 a2 a3 t110 t113 t114 t123 true a0_0 l0_1)) = some r := by rw [if_pos rfl] at H; exact H); clear H; have H := H1; clear H1; by_cases c70 : t126 = t113; rotate_left
        · rw [if_neg c70] at H; have c70b0 : (t126 == t113) = false := beq_eq_false_iff_ne.mpr c70; have c70b1 : (t126 != t113) = true := bne_iff_ne.mpr c70; have H' := Aside0.mk H; clear H; obtain ⟨Ao73, co73, eo73⟩ := Kd.R_slice HO_15.out; subst eo73; obtain ⟨Ao74, co74, eo74⟩ := Kd.R_slice HO_10.out; subst eo74; (go_wp2_with (first | (go_at_call 36; (with_reducible refine (laws_eqIntS.calls kj17 _ _ t123 _ _ t110 true _ ?side1 ?side2 ?side3 ?side4 A68.out).mono ?_); (case side1 => exact zz38); (case side2 => exact (Kd.R_reads' HO_15.out).2.1); (case side3 => exact zz31); (case side4 => exact (Kd.R_reads' HO_10.out).2.1); rintro e w' ⟨rfl, ⟨nd, rfl⟩⟩))); (go_meet); case rel => exact ⟨_, (true), zz8, H', ⟨by have := HJ17.out; first | omega | exact Nat.le_refl _⟩, ⟨zz49⟩, ⟨zz50⟩, ⟨zz48⟩, ⟨zz2⟩, ⟨zz25⟩, ⟨zz14⟩⟩
        rw [if_pos c70] at H; have c70b0 : (t126 == t113) = true := beq_iff_eq.mpr c70; have c70b1 : (t126 != t113) = false := bne_eq_false_iff_eq.mpr c70; clear c70; have H' := Aside0.mk H; clear H; obtain ⟨Ao71, co71, eo71⟩ := Kd.R_slice HO_15.out; subst eo71; obtain ⟨Ao72, co72, eo72⟩ := Kd.R_slice HO_10.out; subst eo72; (go_wp2_with (first | (go_at_call 36; (with_reducible refine (laws_eqIntS.calls kj17 _ _ t123 _ _ t110 true _ ?side1 ?side2 ?side3 ?side4 A68.out).mono ?_); (case side1 => exact zz38); (case side2 => exact (Kd.R_reads' HO_15.out).2.1); (case side3 => exact zz31); (case side4 => exact (Kd.R_reads' HO_10.out).2.1); rintro e w' ⟨rfl, ⟨nd, rfl⟩⟩))); (go_meet); case rel => exact ⟨_, ((t127 != t114)), zz8, H', ⟨by have := HJ17.out; first | omega | exact Nat.le_refl _⟩, ⟨zz49⟩, ⟨zz50⟩, ⟨zz48⟩, ⟨zz2⟩, ⟨zz25⟩, ⟨zz14⟩⟩
      case rest =>
        clear HC56; (try clear c1); (try clear c2); (try clear p2); (try clear c3); (try clear c4); (try clear c5); (try clear c5b0); (try clear c5b1); (try clear c6); (try clear c7); (try clear c8); (try clear c8b0); (try clear c21); (try clear c31); (try clear c36); (try clear c39); (try clear c40); (try clear c40b0); (try clear c40b1); (try clear c41); (try clear c43); (try clear c44); (try clear c46); (try clear c47); (try clear c49); (try clear c50); (try clear c53); (try clear c63); (try clear c67); (try clear c67b0); (try clear c69); (try clear c70); (try clear c70b0); (try clear c70b1); (try clear hcz10_0); (try clear hcz10_1); (try clear hcz20_0); (try clear hcz20_1); (try clear hcz22_0); (try clear hcz22_1); (try clear hcz28_0); (try clear hcz28_1); (try clear hcz32_0); (try clear hcz32_1); (try clear hcz35_0); (try clear hcz35_1); (try clear hcz64_0); (try clear hcz64_1); (try clear hfz10_0); (try clear hfz10_1); (try clear hfz20_0); (try clear hfz20_1); (try clear hfz22_0); (try clear hfz22_1); (try clear hfz28_0); (try clear hfz28_1); (try clear hfz32_0); (try clear hfz32_1); (try clear hfz35_0); (try clear hfz35_1); (try clear hfz64_0); (try clear hfz64_1); (try clear p2); obtain ⟨kq, x103_55, rfl, HA, HJ55, HO_10, HO_15, HO_120001, BK101, BK119, HB⟩ := hcut; have hl120001_55 := (Kd.R_reads' HO_120001.out).1; rw [hl120001_55] at HO_120001; (try simp only [hl120001_55]); (try simp only [hl120001_55] at BK101); (try simp only [hl120001_55] at BK119); (try simp only [hl120001_55] at HO_10); (try simp only [hl120001_55] at HO_15)
        cases kq with
        | zero => exact absurd HA.out (by simp [laws_FnExactDropChip.j1])
        | succ kj55 =>
          have H := HA.out; clear HA; simp only [laws_FnExactDropChip.j1] at H; by_cases c77 : x103_55 = true
          · subst c77; (have H1 : (none) = some r := by rw [if_pos rfl] at H; exact H); clear H; have H := H1; clear H1; exact absurd H (by simp)
          replace c77 := Bool.eq_false_iff.mpr c77; subst c77; (have H1 : ((laws_markIntS.f kj55 t123 1).bind fun bt143 => ((laws_heldIntS.f kj55 bt143.2 1).bind fun t145 => (if t145 < 0 then (none) else (if t145 = bt143.1 then ((laws_toGraph.f kj55 a0_0 l0_1).bind fun bt146 => ((laws_toIntS.f kj55 l1).bind fun t150 => ((impl_DropChip.f kj55 bt146.1 bt146.2 t150 a2 a3).bind fun bt153 => ((laws_eqIntS.f kj55 bt153.1 t110).bind fun t158 => (if t158 = true then (if bt153.2.1 = t113 then (laws_FnExactDropChip.j2 kj55 bt143.2 bt143.1 (bt153.2.2 != t114)) else (laws_FnExactDropChip.j2 kj55 bt143.2 bt143.1 true)) else (laws_FnExactDropChip.j2 kj55 bt143.2 bt143.1 true)))))) else (none))))) = some r := by rw [if_neg (show ¬ (false = true) by decide)] at H; exact H); clear H; have H := H1; clear H1; replace H := Option.bind_eq_some_iff.mp H; obtain ⟨⟨t143, t144⟩, A780, H⟩ := H; replace H : ((laws_heldIntS.f kj55 t144 1).bind fun t145 => (if t145 < 0 then (none) else (if t145 = t143 then ((laws_toGraph.f kj55 a0_0 l0_1).bind fun bt146 => ((laws_toIntS.f kj55 l1).bind fun t150 => ((impl_DropChip.f kj55 bt146.1 bt146.2 t150 a2 a3).bind fun bt153 => ((laws_eqIntS.f kj55 bt153.1 t110).bind fun t158 => (if t158 = true then (if bt153.2.1 = t113 then (laws_FnExactDropChip.j2 kj55 t144 t143 (bt153.2.2 != t114)) else (laws_FnExactDropChip.j2 kj55 t144 t143 true)) else (laws_FnExactDropChip.j2 kj55 t144 t143 true)))))) else (none)))) = some r := H; have A78 := Aside0.mk A780; clear A780; replace H := Option.bind_eq_some_iff.mp H; obtain ⟨t145, A790, H⟩ := H; replace H : (if t145 < 0 then (none) else (if t145 = t143 then ((laws_toGraph.f kj55 a0_0 l0_1).bind fun bt146 => ((laws_toIntS.f kj55 l1).bind fun t150 => ((impl_DropChip.f kj55 bt146.1 bt146.2 t150 a2 a3).bind fun bt153 => ((laws_eqIntS.f kj55 bt153.1 t110).bind fun t158 => (if t158 = true then (if bt153.2.1 = t113 then (laws_FnExactDropChip.j2 kj55 t144 t143 (bt153.2.2 != t114)) else (laws_FnExactDropChip.j2 kj55 t144 t143 true)) else (laws_FnExactDropChip.j2 kj55 t144 t143 true)))))) else (none))) = some r := H; have A79 := Aside0.mk A790; clear A790; by_cases c80 : t145 < 0
          · rw [if_pos c80] at H; exact absurd H (by simp)
          rw [if_neg c80] at H; have c80b0 : decide (t145 < 0) = false := decide_eq_false c80; clear c80; by_cases c81 : t145 = t143; rotate_left
          · rw [if_neg c81] at H; exact absurd H (by simp)
          rw [if_pos c81] at H; have c81b0 : (t145 == t143) = true := beq_iff_eq.mpr c81; have c81b1 : (t145 != t143) = false := bne_eq_false_iff_eq.mpr c81; clear c81; replace H := Option.bind_eq_some_iff.mp H; obtain ⟨⟨t146, t147⟩, A820, H⟩ := H; replace H : ((laws_toIntS.f kj55 l1).bind fun t150 => ((impl_DropChip.f kj55 t146 t147 t150 a2 a3).bind fun bt153 => ((laws_eqIntS.f kj55 bt153.1 t110).bind fun t158 => (if t158 = true then (if bt153.2.1 = t113 then (laws_FnExactDropChip.j2 kj55 t144 t143 (bt153.2.2 != t114)) else (laws_FnExactDropChip.j2 kj55 t144 t143 true)) else (laws_FnExactDropChip.j2 kj55 t144 t143 true))))) = some r := H; have A82 := Aside0.mk A820; clear A820; replace H := Option.bind_eq_some_iff.mp H; obtain ⟨t150, A830, H⟩ := H; replace H : ((impl_DropChip.f kj55 t146 t147 t150 a2 a3).bind fun bt153 => ((laws_eqIntS.f kj55 bt153.1 t110).bind fun t158 => (if t158 = true then (if bt153.2.1 = t113 then (laws_FnExactDropChip.j2 kj55 t144 t143 (bt153.2.2 != t114)) else (laws_FnExactDropChip.j2 kj55 t144 t143 true)) else (laws_FnExactDropChip.j2 kj55 t144 t143 true)))) = some r := H; have A83 := Aside0.mk A830; clear A830; replace H := Option.bind_eq_some_iff.mp H; obtain ⟨⟨t153, t156, t157⟩, A840, H⟩ := H; replace H : ((laws_eqIntS.f kj55 t153 t110).bind fun t158 => (if t158 = true then (if t156 = t113 then (laws_FnExactDropChip.j2 kj55 t144 t143 (t157 != t114)) else (laws_FnExactDropChip.j2 kj55 t144 t143 true)) else (laws_FnExactDropChip.j2 kj55 t144 t143 true))) = some r := H; have A84 := Aside0.mk A840; clear A840; have HC85 := Aside0.mk H; clear H; obtain ⟨Ao86, co86, eo86⟩ := Kd.R_slice HO_15.out; subst eo86; (go_upto_region 31 with (first | ((with_reducible refine gate_callee (f := 39) rfl ?_); refine goesL_ (some 106) rfl rfl Try.func39 (by kernel_rfl) rfl #[.slice Ao86 t123.length co86, .int .i64 1] rfl zz3 ?_; (with_reducible refine (laws_markIntS.calls kj55 (fun k_ => some k_ = (.slice Ao86 t123.length co86 : Value).ownBlock) (.slice Ao86 t123.length co86) t123 1 t143 t144 w _ ?side1 ?side2 A78.out).mono ?_); (case side1 => exact zz14); (case side2 => exact Kd.R_tight rfl HO_15.out); rintro e w87 ⟨rfl, hy0, hb, hkp⟩; refine ⟨_, rfl, ?_⟩; have n0_ := Aside0.mk (Kd.R_mono (ok' := fun k_ => some k_ ≠ (.slice Ao86 t123.length co86 : Value).ownBlock) (Kd.R_keptB (HO_10.out) hkp (fun k_ hk_ hs_ => (hk_) hs_)) (fun k_ hk_ => hk_.1)); have n1_ := Aside0.mk (Kd.R_reok rfl hy0 (fun k_ e_ => HO_15.out.1 k_ e_)); have n2_ := Aside0.mk (Kd.R_mono (ok' := fun k_ => True) (Kd.R_keptB ((Kd.R_apart' HO_120001.out (Kd.R_typed HO_15.out) (by decide))) hkp (fun k_ hk_ hs_ => (hk_.2) hs_)) (fun k_ hk_ => trivial)); have n3_ := Aside0.mk (blk_kept zz2 hkp (fun hs_ => (fun e_ => (Kd.R_ne HO_15.out BK101.out (by decide)) e_) hs_)); have n4_ := Aside0.mk (blk_kept zz25 hkp (fun hs_ => (fun e_ => (Kd.R_ne HO_15.out BK119.out (by decide)) e_) hs_)); have n5_ := Aside0.mk (hb); clear HO_10; clear HO_15; clear HO_120001; clear BK101; clear BK119; clear HB; have HO_10 := n0_; have HO_15 := n1_; have HO_120001 := n2_; have BK101 := n3_; have BK119 := n4_; have HB := n5_; clear n0_ n1_ n2_ n3_ n4_ n5_; (try clear hb); (try clear hkp); (try clear hy0)) | ((with_reducible refine gate_callee (f := 40) rfl ?_); refine goesL_ (some 109) rfl rfl Try.func40 (by kernel_rfl) rfl #[.slice Ao86 t144.length co86, .int .i64 1] rfl (by (try simp only [List.map_toArray, List.map_cons, List.map_nil]); first | done | (rw [show t144.length = t123.length from (Kd.R_reads' HO_15.out).1.symm] <;> rfl) | rfl | (simp only [List.length_drop, List.length_take]; rfl)) ?_; (with_reducible refine (laws_heldIntS.calls kj55 _ _ t144 1 t145 _ ?side1 ?side2 A79.out).mono ?_); (case side1 => exact zz38); (case side2 => rw [show t144.length = t123.length from (Kd.R_reads' HO_15.out).1.symm]; exact (Kd.R_reads' HO_15.out).2.1); rintro e w' ⟨rfl, ⟨nd, rfl⟩⟩; refine ⟨_, rfl, ?_⟩; have hnb88 := NB101_119.out; have hnc88 := NB119_101.out; have hcz89_0 : w87.cell? ⟨gb101, 0, none⟩ = some (.int .i64 a0_0) := (blk_cell BK101.out 0).trans rfl; have hcz89_1 : w87.cell? ⟨gb101, 1, none⟩ = some (.slice A0_1 l0_1.length c0_1) := (blk_cell BK101.out 1).trans rfl; have hfz89_0 := blk_frozen BK101.out 0; have hfz89_1 := blk_frozen BK101.out 1) | ((with_reducible refine gate_callee (f := 43) rfl ?_); refine goesL_ (some 117) rfl rfl Try.func43 (by kernel_rfl) rfl #[.agg #[.int .i64 a0_0, .slice A0_1 l0_1.length c0_1]] rfl zz3 ?_; (with_reducible refine (laws_toGraph.calls kj55 a0_0 _ _ l0_1 t146 t147 _ ?side1 ?side2 A82.out).mono ?_); (case side1 => repeat (first | exact (Kd.C_below HR0_1.out zz14) | (with_reducible refine Kd.C_alloc ?_ _) | (with_reducible refine Kd.C_drewN ?_ _) | (with_reducible refine Kd.C_drew ?_))); (case side2 => exact HC0_1.out); rintro e w90 ⟨v148, rfl, ho0, hb⟩; refine ⟨_, rfl, ?_⟩; have n0_ := Aside0.mk (Kd.R_below zz27 hb); have n1_ := Aside0.mk (Kd.R_below zz28 hb); have n2_ := Aside0.mk (Kd.R_elder' zz33 (Kd.R_base ho0) hb); have n3_ := Aside0.mk (Kd.R_lower (Kd.R_new' ho0 (Kd.R_lt zz33)) (below_size zz14)); have n4_ := Aside0.mk (blk_below (g := gb101) (o := .cells #[.int .i64 a0_0, .slice A0_1 l0_1.length c0_1] 33 (0, 0)) zz2 hb); have n5_ := Aside0.mk (blk_below (g := gb119) (o := .cells #[.int .i64 t115, .slice Ao33 t139.length co33] 38 (0, 0)) zz25 hb); have n6_ := Aside0.mk (below_step zz14 hb); clear HO_10; clear HO_15; clear HO_120001; clear BK101; clear BK119; clear HB; have HO_10 := n0_; have HO_15 := n1_; have HO_120001 := n2_; have HO149 := n3_; have BK101 := n4_; have BK119 := n5_; have HB := n6_; clear n0_ n1_ n2_ n3_ n4_ n5_ n6_; (try clear hb); (try clear hb2); (try clear hk); (try clear hi); (try clear ho0)) | ((with_reducible refine gate_callee (f := 44) rfl ?_); refine goesL_ (some 119) rfl rfl Try.func44 (by kernel_rfl) rfl #[.slice A1 l1.length c1] rfl zz3 ?_; (with_reducible refine (laws_toIntS.calls kj55 _ _ l1 t150 _ ?side1 ?side2 A83.out).mono ?_); (case side1 => exact zz9); (case side2 => exact HC1.out); rintro e w91 ⟨v151, rfl, ho0, hb⟩; refine ⟨_, rfl, ?_⟩; have n0_ := Aside0.mk (Kd.R_elder' zz27 (Kd.R_base ho0) hb); have n1_ := Aside0.mk (Kd.R_elder' zz28 (Kd.R_base ho0) hb); have n2_ := Aside0.mk (Kd.R_below zz33 hb); have n3_ := Aside0.mk (Kd.R_below (by (with_reducible repeat (first | apply Kd.R_alloc | apply Kd.R_drewN | apply Kd.R_drew)); exact HO149.out) hb); have n4_ := Aside0.mk (Kd.R_lower (Kd.R_new' (Kd.R_new' ho0 (Kd.R_lt zz27)) (Kd.R_lt zz28)) (below_size zz14)); have n5_ := Aside0.mk (blk_below (g := gb101) (o := .cells #[.int .i64 a0_0, .slice A0_1 l0_1.length c0_1] 33 (0, 0)) zz2 hb); have n6_ := Aside0.mk (blk_below (g := gb119) (o := .cells #[.int .i64 t115, .slice Ao33 t139.length co33] 38 (0, 0)) zz25 hb); have n7_ := Aside0.mk (below_step zz14 hb); clear HO_10; clear HO_15; clear HO_120001; clear HO149; clear BK101; clear BK119; clear HB; have HO_10 := n0_; have HO_15 := n1_; have HO_120001 := n2_; have HO149 := n3_; have HO152 := n4_; have BK101 := n5_; have BK119 := n6_; have HB := n7_; clear n0_ n1_ n2_ n3_ n4_ n5_ n6_ n7_; (try clear hb); (try clear hb2); (try clear hk); (try clear hi); (try clear ho0); obtain ⟨Ao92, co92, eo92⟩ := Kd.R_slice HO149.out; subst eo92; obtain ⟨Ao93, co93, eo93⟩ := Kd.R_slice HO152.out; subst eo93) | ((with_reducible refine gate_callee (f := 81) rfl ?_); refine goesL_ (some 122) rfl rfl Try.func81 (by kernel_rfl) rfl #[.agg #[.int .i64 t146, .slice Ao92 t147.length co92], .slice Ao93 t150.length co93, .int .i64 a2, .int .i64 a3] rfl zz3 ?_; (with_reducible refine (impl_DropChip.calls kj55 t146 _ _ t147 _ _ t150 a2 a3 t153 t156 t157 _ ?side1 ?side2 ?side3 ?side4 A84.out).mono ?_); (case side1 => repeat (first | exact (Kd.R_reads' HO149.out).2.2 | (with_reducible refine Kd.C_alloc ?_ _) | (with_reducible refine Kd.C_drewN ?_ _) | (with_reducible refine Kd.C_drew ?_))); (case side2 => exact (Kd.R_reads' HO149.out).2.1); (case side3 => repeat (first | exact (Kd.R_reads' HO152.out).2.2 | (with_reducible refine Kd.C_alloc ?_ _) | (with_reducible refine Kd.C_drewN ?_ _) | (with_reducible refine Kd.C_drew ?_))); (case side4 => exact (Kd.R_reads' HO152.out).2.1); rintro e w94 ⟨v154, rfl, ho0, hb⟩; refine ⟨_, rfl, ?_⟩; have n0_ := Aside0.mk (Kd.R_elder' zz27 (Kd.R_base ho0) hb); have n1_ := Aside0.mk (Kd.R_elder' zz28 (Kd.R_base ho0) hb); have n2_ := Aside0.mk (Kd.R_below zz33 hb); have n3_ := Aside0.mk (Kd.R_below (by (with_reducible repeat (first | apply Kd.R_alloc | apply Kd.R_drewN | apply Kd.R_drew)); exact HO149.out) hb); have n4_ := Aside0.mk (Kd.R_elder' (by (with_reducible repeat (first | apply Kd.R_alloc | apply Kd.R_drewN | apply Kd.R_drew)); exact HO152.out) (Kd.R_base ho0) hb); have n5_ := Aside0.mk (Kd.R_lower (Kd.R_new' (Kd.R_new' (Kd.R_new' ho0 (Kd.R_lt zz27)) (Kd.R_lt zz28)) (Kd.R_lt (by (with_reducible repeat (first | apply Kd.R_alloc | apply Kd.R_drewN | apply Kd.R_drew)); exact HO152.out))) (below_size zz14)); have n6_ := Aside0.mk (blk_below (g := gb101) (o := .cells #[.int .i64 a0_0, .slice A0_1 l0_1.length c0_1] 33 (0, 0)) zz2 hb); have n7_ := Aside0.mk (blk_below (g := gb119) (o := .cells #[.int .i64 t115, .slice Ao33 t139.length co33] 38 (0, 0)) zz25 hb); have n8_ := Aside0.mk (below_step zz14 hb); clear HO_10; clear HO_15; clear HO_120001; clear HO149; clear HO152; clear BK101; clear BK119; clear HB; have HO_10 := n0_; have HO_15 := n1_; have HO_120001 := n2_; have HO149 := n3_; have HO152 := n4_; have HO155 := n5_; have BK101 := n6_; have BK119 := n7_; have HB := n8_; clear n0_ n1_ n2_ n3_ n4_ n5_ n6_ n7_ n8_; (try clear hb); (try clear hb2); (try clear hk); (try clear hi); (try clear ho0)))); (try simp only [Act.put, List.setIfInBounds_toArray, List.set_cons_zero, List.set_cons_succ]); go_cut [139] (fun v139 wc => ∃ (kq : Nat) (x139_84 : Bool), v139 = .bool x139_84 ∧ Aside0 (laws_FnExactDropChip.j2 kq t144 t143 x139_84 = some r) ∧ Aside0 (kq ≤ kj55) ∧ Aside0 (Kd.R (Kd.int .i64) 3 wc w.heap.size (fun _ => True) (.slice Ao86 t123.length co86) t144) ∧ Aside0 (Kd.R k70 70 wc w.heap.size (fun _ => True) (.slice Ao33 t139.length co33) t139) ∧ Aside0 (wc.heap[gb101]? = some (.cells #[.int .i64 a0_0, (.slice A0_1 l0_1.length c0_1)] 33 (0, 0))) ∧ Aside0 (wc.heap[gb119]? = some (.cells #[.int .i64 t115, (.slice Ao33 t139.length co33)] 38 (0, 0))) ∧ Aside0 (Below w.heap.size w wc))
          case first =>
            have H := HC85.out; clear HC85; replace H := Option.bind_eq_some_iff.mp H; obtain ⟨t158, A950, H⟩ := H; replace H : (if t158 = true then (if t156 = t113 then (laws_FnExactDropChip.j2 kj55 t144 t143 (t157 != t114)) else (laws_FnExactDropChip.j2 kj55 t144 t143 true)) else (laws_FnExactDropChip.j2 kj55 t144 t143 true)) = some r := H; have A95 := Aside0.mk A950; clear A950; by_cases c96 : t158 = true; rotate_left
            · replace c96 := Bool.eq_false_iff.mpr c96; subst c96; (have H1 : (laws_FnExactDropChip.j2 kj55 t144 t143 true) = some r := by rw [if_neg (show ¬ (false = true) by decide)] at H; exact H); clear H; have H := H1; clear H1; have H' := Aside0.mk H; clear H; obtain ⟨Ao102, co102, eo102⟩ := Kd.R_slice HO155.out; subst eo102; obtain ⟨Ao103, co103, eo103⟩ := Kd.R_slice HO_10.out; subst eo103; (go_wp2_with (first | ((with_reducible refine gate_callee (f := 36) rfl ?_); refine goesL_ (some 128) rfl rfl Try.func36 (by kernel_rfl) rfl #[.slice Ao102 t153.length co102, .slice Ao103 t110.length co103] rfl zz3 ?_; (with_reducible refine (laws_eqIntS.calls kj55 _ _ t153 _ _ t110 false _ ?side1 ?side2 ?side3 ?side4 A95.out).mono ?_); (case side1 => repeat (first | exact (Kd.R_reads' HO155.out).2.2 | (with_reducible refine Kd.C_alloc ?_ _) | (with_reducible refine Kd.C_drewN ?_ _) | (with_reducible refine Kd.C_drew ?_))); (case side2 => exact (Kd.R_reads' HO155.out).2.1); (case side3 => exact zz31); (case side4 => exact (Kd.R_reads' HO_10.out).2.1); rintro e w' ⟨rfl, ⟨nd, rfl⟩⟩; refine ⟨_, rfl, ?_⟩))); (go_meet); case rel => exact ⟨_, (true), zz8, H', ⟨by have := HJ17.out; have := HJ55.out; first | omega | exact Nat.le_refl _⟩, ⟨zz57⟩, ⟨zz55⟩, ⟨by (try simp only [hl120001_55]); (with_reducible repeat (first | refine blk_drewN ?_ _ | refine blk_drew ?_ | refine blk_alloc ?_ _)); exact BK101.out⟩, ⟨by (try simp only [hl120001_55]); (with_reducible repeat (first | refine blk_drewN ?_ _ | refine blk_drew ?_ | refine blk_alloc ?_ _)); exact BK119.out⟩, ⟨zz14⟩⟩
            subst c96; (have H1 : (if t156 = t113 then (laws_FnExactDropChip.j2 kj55 t144 t143 (t157 != t114)) else (laws_FnExactDropChip.j2 kj55 t144 t143 true)) = some r := by rw [if_pos rfl] at H; exact H); clear H; have H := H1; clear H1; by_cases c97 : t156 = t113; rotate_left
            · rw [if_neg c97] at H; have c97b0 : (t156 == t113) = false := beq_eq_false_iff_ne.mpr c97; have c97b1 : (t156 != t113) = true := bne_iff_ne.mpr c97; (first | rw [c97b0] | (simp only [i64_w, i32_w]; rw [c97b0]) | skip); have H' := Aside0.mk H; clear H; obtain ⟨Ao100, co100, eo100⟩ := Kd.R_slice HO155.out; subst eo100; obtain ⟨Ao101, co101, eo101⟩ := Kd.R_slice HO_10.out; subst eo101; (go_wp2_with (first | ((with_reducible refine gate_callee (f := 36) rfl ?_); refine goesL_ (some 128) rfl rfl Try.func36 (by kernel_rfl) rfl #[.slice Ao100 t153.length co100, .slice Ao101 t110.length co101] rfl zz3 ?_; (with_reducible refine (laws_eqIntS.calls kj55 _ _ t153 _ _ t110 true _ ?side1 ?side2 ?side3 ?side4 A95.out).mono ?_); (case side1 => repeat (first | exact (Kd.R_reads' HO155.out).2.2 | (with_reducible refine Kd.C_alloc ?_ _) | (with_reducible refine Kd.C_drewN ?_ _) | (with_reducible refine Kd.C_drew ?_))); (case side2 => exact (Kd.R_reads' HO155.out).2.1); (case side3 => exact zz31); (case side4 => exact (Kd.R_reads' HO_10.out).2.1); rintro e w' ⟨rfl, ⟨nd, rfl⟩⟩; refine ⟨_, rfl, ?_⟩))); (go_meet); case rel => exact ⟨_, (true), zz8, H', ⟨by have := HJ17.out; have := HJ55.out; first | omega | exact Nat.le_refl _⟩, ⟨zz57⟩, ⟨zz55⟩, ⟨by (try simp only [hl120001_55]); (with_reducible repeat (first | refine blk_drewN ?_ _ | refine blk_drew ?_ | refine blk_alloc ?_ _)); exact BK101.out⟩, ⟨by (try simp only [hl120001_55]); (with_reducible repeat (first | refine blk_drewN ?_ _ | refine blk_drew ?_ | refine blk_alloc ?_ _)); exact BK119.out⟩, ⟨zz14⟩⟩
            rw [if_pos c97] at H; have c97b0 : (t156 == t113) = true := beq_iff_eq.mpr c97; have c97b1 : (t156 != t113) = false := bne_eq_false_iff_eq.mpr c97; clear c97; (first | rw [c97b0] | (simp only [i64_w, i32_w]; rw [c97b0]) | skip); have H' := Aside0.mk H; clear H; obtain ⟨Ao98, co98, eo98⟩ := Kd.R_slice HO155.out; subst eo98; obtain ⟨Ao99, co99, eo99⟩ := Kd.R_slice HO_10.out; subst eo99; (go_wp2_with (first | ((with_reducible refine gate_callee (f := 36) rfl ?_); refine goesL_ (some 128) rfl rfl Try.func36 (by kernel_rfl) rfl #[.slice Ao98 t153.length co98, .slice Ao99 t110.length co99] rfl zz3 ?_; (with_reducible refine (laws_eqIntS.calls kj55 _ _ t153 _ _ t110 true _ ?side1 ?side2 ?side3 ?side4 A95.out).mono ?_); (case side1 => repeat (first | exact (Kd.R_reads' HO155.out).2.2 | (with_reducible refine Kd.C_alloc ?_ _) | (with_reducible refine Kd.C_drewN ?_ _) | (with_reducible refine Kd.C_drew ?_))); (case side2 => exact (Kd.R_reads' HO155.out).2.1); (case side3 => exact zz31); (case side4 => exact (Kd.R_reads' HO_10.out).2.1); rintro e w' ⟨rfl, ⟨nd, rfl⟩⟩; refine ⟨_, rfl, ?_⟩))); (go_meet); case rel => exact ⟨_, ((t157 != t114)), zz8, H', ⟨by have := HJ17.out; have := HJ55.out; first | omega | exact Nat.le_refl _⟩, ⟨zz57⟩, ⟨zz55⟩, ⟨by (try simp only [hl120001_55]); (with_reducible repeat (first | refine blk_drewN ?_ _ | refine blk_drew ?_ | refine blk_alloc ?_ _)); exact BK101.out⟩, ⟨by (try simp only [hl120001_55]); (with_reducible repeat (first | refine blk_drewN ?_ _ | refine blk_drew ?_ | refine blk_alloc ?_ _)); exact BK119.out⟩, ⟨zz14⟩⟩
          case rest =>
            clear HC85; (try clear c1); (try clear c2); (try clear p2); (try clear c3); (try clear c4); (try clear c5); (try clear c5b0); (try clear c5b1); (try clear c6); (try clear c7); (try clear c8); (try clear c8b0); (try clear c9); (try clear c21); (try clear c31); (try clear c36); (try clear c39); (try clear c40); (try clear c40b0); (try clear c40b1); (try clear c41); (try clear c43); (try clear c44); (try clear c46); (try clear c47); (try clear c49); (try clear c50); (try clear c53); (try clear c63); (try clear c67); (try clear c67b0); (try clear c69); (try clear c70); (try clear c70b0); (try clear c70b1); (try clear c77); (try clear c80); (try clear c80b0); (try clear c81); (try clear c81b0); (try clear c81b1); (try clear c88); (try clear c96); (try clear c97); (try clear c97b0); (try clear c97b1); (try clear hcz10_0); (try clear hcz10_1); (try clear hcz20_0); (try clear hcz20_1); (try clear hcz22_0); (try clear hcz22_1); (try clear hcz28_0); (try clear hcz28_1); (try clear hcz32_0); (try clear hcz32_1); (try clear hcz35_0); (try clear hcz35_1); (try clear hcz64_0); (try clear hcz64_1); (try clear hcz89_0); (try clear hcz89_1); (try clear hfz10_0); (try clear hfz10_1); (try clear hfz20_0); (try clear hfz20_1); (try clear hfz22_0); (try clear hfz22_1); (try clear hfz28_0); (try clear hfz28_1); (try clear hfz32_0); (try clear hfz32_1); (try clear hfz35_0); (try clear hfz35_1); (try clear hfz64_0); (try clear hfz64_1); (try clear hfz89_0); (try clear hfz89_1); (try clear p2); obtain ⟨kq, x139_84, rfl, HA, HJ84, HO_15, HO_120001, BK101, BK119, HB⟩ := hcut; have hl15_84 := (Kd.R_reads' HO_15.out).1; rw [hl15_84] at HO_15; (try simp only [hl15_84]); (try simp only [hl15_84] at BK101); (try simp only [hl15_84] at BK119); (try simp only [hl15_84] at HO_120001)
            cases kq with
            | zero => exact absurd HA.out (by simp [laws_FnExactDropChip.j2])
            | succ kj84 =>
              have H := HA.out; clear HA; simp only [laws_FnExactDropChip.j2] at H; by_cases c104 : x139_84 = true
              · subst c104; (have H1 : (none) = some r := by rw [if_pos rfl] at H; exact H); clear H; have H := H1; clear H1; exact absurd H (by simp)
              replace c104 := Bool.eq_false_iff.mpr c104; subst c104; (have H1 : ((laws_heldIntS.f kj84 t144 1).bind fun t159 => (if t159 < 0 then (none) else (if t159 = t143 then (some true) else (none)))) = some r := by rw [if_neg (show ¬ (false = true) by decide)] at H; exact H); clear H; have H := H1; clear H1; replace H := Option.bind_eq_some_iff.mp H; obtain ⟨t159, A1050, H⟩ := H; replace H : (if t159 < 0 then (none) else (if t159 = t143 then (some true) else (none))) = some r := H; have A105 := Aside0.mk A1050; clear A1050; by_cases c106 : t159 < 0
              · rw [if_pos c106] at H; exact absurd H (by simp)
              rw [if_neg c106] at H; have c106b0 : decide (t159 < 0) = false := decide_eq_false c106; clear c106; by_cases c107 : t159 = t143; rotate_left
              · rw [if_neg c107] at H; exact absurd H (by simp)
              rw [if_pos c107] at H; have c107b0 : (t159 == t143) = true := beq_iff_eq.mpr c107; have c107b1 : (t159 != t143) = false := bne_eq_false_iff_eq.mpr c107; clear c107; obtain rfl := Option.some.inj H; (go_wp2_with (first | ((with_reducible refine gate_callee (f := 40) rfl ?_); refine goesL_ (some 142) rfl rfl Try.func40 (by kernel_rfl) rfl #[.slice Ao86 t144.length co86, .int .i64 1] rfl zz3 ?_; (with_reducible refine (laws_heldIntS.calls kj84 _ _ t144 1 t159 _ ?side1 ?side2 A105.out).mono ?_); (case side1 => exact zz38); (case side2 => exact (Kd.R_reads' HO_15.out).2.1); rintro e w' ⟨rfl, ⟨nd, rfl⟩⟩; refine ⟨_, rfl, ?_⟩))); go_ret; exact ⟨zz6, zz14⟩
end Go.Proofs.Ytjecgolakaiddaa.P
end

section
namespace Go.Proofs.Ytjecgolakaiddaa.P
open Go.RowKit Go.Proofs.YtjecgolakaiddaaW.PrintWords Go.Proofs.YtjecgolakaiddaaW.PrintLast Go.Proofs.YtjecgolakaiddaaW.PrintMore
attribute [local go_sem] max2_int min2_int max_two min_two max_three min_three max_four min_four
set_option linter.unusedVariables false
set_option linter.unusedSimpArgs false
def impl_isVertex.f (a0_0 : Int) (l0_1 : List (S70)) (a1 : Int) : Option (Bool) := (impl_GraphOk.f a0_0 l0_1).bind fun t102 => (if t102 = true then ((impl_within.f a1 0 (wrap64 (a0_0 - 1))).bind fun t103 => (some t103)) else (some false))
def impl_isAt.f (a0_0 : Int) (l0_1 : List (S70)) (a1 : Int) (a2 : Int) : Option (Bool) := (impl_within.f a1 0 (wrap64 ((l0_1.length : Int) - 1))).bind fun t102 => (if t102 = true then (if 0 ≤ a1 then (if a1 < (l0_1.length : Int) then (if ((rd_T70 l0_1 a1).f0) = a2 then (some true) else (some (((rd_T70 l0_1 a1).f1) == a2))) else (none)) else (none)) else (some false))
end Go.Proofs.Ytjecgolakaiddaa.P
end

section
namespace Go.Proofs.Ytjecgolakaiddaa.Cf
set_option linter.unusedVariables false
set_option linter.unusedSimpArgs false
open Go.RowKit Go.Proofs.YtjecgolakaiddaaW.PrintWords Go.Proofs.Ytjecgolakaiddaa.P
theorem forall_drop' {α : Type} {l : List α} {P : α → Prop} {i : Nat} (h : i < l.length) : (∀ e ∈ l.drop i, P e) ↔ (P l[i] ∧ ∀ e ∈ l.drop (i + 1), P e) := by
  rw [List.drop_eq_getElem_cons h]
  simp only [List.mem_cons, forall_eq_or_imp]
theorem implGraph (n : Int) (es : List E) : impl_GraphOk.f n es = some (gOk n es) := rfl
theorem allWithin_l0 (a b : Int) (l : List Int) (hl : l.length ≤ 1048576) : ∀ (d i : Nat), i + d = l.length → Ep (fun k => impl_allWithin.l0 k a b l (l.length : Int) (i : Int)) (· = decide (∀ x ∈ l.drop i, a ≤ x ∧ x ≤ b)) := by
  intro d
  induction d with
  | zero =>
    intro i hi
    refine Ep.up ?_
    simp only [impl_allWithin.l0]
    refine Ep.neg (by omega) (Ep.now ?_)
    rw [List.drop_of_length_le (by omega)]
    simp
  | succ d ih =>
    intro i hi
    have hlt : i < l.length := by omega
    refine Ep.up ?_
    simp only [impl_allWithin.l0]
    refine Ep.pos (by omega) (Ep.pos (by omega) (Ep.pos (by omega) ?_))
    rw [rd_get hlt, wrap_succ (by omega)]
    refine Ep.bind0 (within_eq _ _ _) ?_
    refine Ep.ite (fun h => ?_) (fun h => Ep.now ?_)
    · have h' : a ≤ l[i] ∧ l[i] ≤ b := by simpa using h
      refine (ih (i + 1) (by omega)).mono ?_
      rintro _ rfl
      simp only [forall_drop' hlt, h', true_and]
    · have h' : ¬ (a ≤ l[i] ∧ l[i] ≤ b) := by simpa using h
      simp only [forall_drop' hlt, h', false_and, decide_false]
theorem allWithin_ok (l : List Int) (a b : Int) (hl : l.length ≤ 1048576) : Ep (fun k => impl_allWithin.f k l a b) (· = decide (∀ x ∈ l, a ≤ x ∧ x ≤ b)) := by
  have := allWithin_l0 a b l hl l.length 0 (by omega)
  simp only [impl_allWithin.f]
  rw [List.drop_zero] at this
  exact this
/-- The edge with this index is at v. -/
def At (es : List E) (k v : Int) : Prop := ∃ j : Nat, k = j ∧ ∃ h : j < es.length, es[j].f0 = v ∨ es[j].f1 = v
theorem At.of {es : List E} {j : Nat} {v : Int} (hj : j < es.length) : At es (j : Int) v ↔ (es[j].f0 = v ∨ es[j].f1 = v) := by
  constructor
  · rintro ⟨i, hi, h, hx⟩
    have : i = j := by omega
    subst this
    exact hx
  · intro h
    exact ⟨j, rfl, hj, h⟩
end Go.Proofs.Ytjecgolakaiddaa.Cf
end

section
namespace Go.Proofs.Ytjecgolakaiddaa.Cf
set_option linter.unusedVariables false
set_option linter.unusedSimpArgs false
def sumN : Nat → (Nat → Int) → Int
  | 0, _ => 0
  | n + 1, f => sumN n f + f n
def sumE (es : List E) (f : E → Int) : Int := (es.map f).sum
theorem sumE_cons (e : E) (r : List E) (f : E → Int) : sumE (e :: r) f = f e + sumE r f := by simp [sumE]
theorem sumN_congr {n : Nat} {f g : Nat → Int} (h : ∀ i, i < n → f i = g i) : sumN n f = sumN n g := by
  induction n with
  | zero => rfl
  | succ n ih => simp only [sumN]; rw [ih (fun i hi => h i (by omega)), h n (by omega)]
theorem sumN_le {n : Nat} {f g : Nat → Int} (h : ∀ i, i < n → f i ≤ g i) : sumN n f ≤ sumN n g := by
  induction n with
  | zero => exact Int.le_refl _
  | succ n ih =>
    simp only [sumN]
    have := ih (fun i hi => h i (by omega))
    have := h n (by omega)
    omega
theorem sumN_add (n : Nat) (f g : Nat → Int) : sumN n (fun i => f i + g i) = sumN n f + sumN n g := by
  induction n with
  | zero => rfl
  | succ n ih => simp only [sumN]; rw [ih]; omega
theorem sumN_zero (n : Nat) : sumN n (fun _ => 0) = 0 := by
  induction n with
  | zero => rfl
  | succ n ih => simp only [sumN]; rw [ih]; rfl
theorem sumN_const (n : Nat) (c : Int) : sumN n (fun _ => c) = n * c := by
  induction n with
  | zero => simp [sumN]
  | succ n ih => simp only [sumN]; rw [ih]; rw [Int.natCast_succ, Int.add_mul]; omega
theorem sumN_one {n : Nat} (k : Nat) (hk : k < n) (c : Int) : sumN n (fun i => if i = k then c else 0) = c := by
  induction n with
  | zero => omega
  | succ n ih =>
    simp only [sumN]
    by_cases h : n = k
    · subst h
      rw [if_pos rfl, sumN_congr (g := fun _ => 0) (fun i hi => by rw [if_neg (by omega)]), sumN_zero]
      omega
    · rw [ih (by omega), if_neg h]
      omega
theorem sumE_congr {es : List E} {f g : E → Int} (h : ∀ e ∈ es, f e = g e) : sumE es f = sumE es g := by
  unfold sumE
  rw [List.map_congr_left h]
theorem sumE_add (es : List E) (f g : E → Int) : sumE es (fun e => f e + g e) = sumE es f + sumE es g := by
  induction es with
  | nil => rfl
  | cons e r ih => rw [sumE_cons, sumE_cons, sumE_cons, ih]; omega
theorem sumE_le {es : List E} {f g : E → Int} (h : ∀ e ∈ es, f e ≤ g e) : sumE es f ≤ sumE es g := by
  induction es with
  | nil => exact Int.le_refl _
  | cons e r ih =>
    rw [sumE_cons, sumE_cons]
    have := ih (fun x hx => h x (List.mem_cons_of_mem _ hx))
    have := h e List.mem_cons_self
    omega
theorem sumE_zero {es : List E} {f : E → Int} (h : ∀ e ∈ es, f e = 0) : sumE es f = 0 := by
  induction es with
  | nil => rfl
  | cons e r ih => rw [sumE_cons, ih (fun x hx => h x (List.mem_cons_of_mem _ hx)), h e List.mem_cons_self]; rfl
theorem sumE_nonneg {es : List E} {f : E → Int} (h : ∀ e ∈ es, 0 ≤ f e) : 0 ≤ sumE es f := by
  have := sumE_le (es := es) (f := fun _ => 0) (g := f) h
  rw [sumE_zero (fun _ _ => rfl)] at this
  exact this
theorem sumE_term {es : List E} {f : E → Int} (h : ∀ e ∈ es, 0 ≤ f e) {e : E} (he : e ∈ es) : f e ≤ sumE es f := by
  induction es with
  | nil => cases he
  | cons a r ih =>
    rw [sumE_cons]
    have h0 := sumE_nonneg (fun x hx => h x (List.mem_cons_of_mem a hx))
    rcases List.mem_cons.1 he with rfl | he
    · omega
    · have := ih (fun x hx => h x (List.mem_cons_of_mem _ hx)) he
      have := h a List.mem_cons_self
      omega
theorem sumE_neg (es : List E) (f : E → Int) : sumE es (fun e => - f e) = - sumE es f := by
  induction es with
  | nil => rfl
  | cons e r ih => rw [sumE_cons, sumE_cons, ih]; omega
theorem sumE_mul (es : List E) (c : Int) (f : E → Int) : sumE es (fun e => c * f e) = c * sumE es f := by
  induction es with
  | nil => simp [sumE]
  | cons e r ih => rw [sumE_cons, sumE_cons, ih, Int.mul_add]
/-- What an edge takes from w when the script s is fired. -/
def lapE (s : Int → Int) (w : Int) (e : E) : Int := (if e.f0 = w then s e.f0 - s e.f1 else 0) + (if e.f1 = w then s e.f1 - s e.f0 else 0)
/-- What w loses when the script s is fired. -/
def lap (es : List E) (s : Int → Int) (w : Int) : Int := sumE es (lapE s w)
def ind (P : Int → Bool) (v : Int) : Int := if P v then 1 else 0
def one (v : Int) (t : Int) (w : Int) : Int := if w = v then t else 0
theorem lap_nil (s : Int → Int) (w : Int) : lap [] s w = 0 := rfl
theorem lap_cons (e : E) (r : List E) (s : Int → Int) (w : Int) : lap (e :: r) s w = lapE s w e + lap r s w := sumE_cons _ _ _
theorem lap_add (es : List E) (s t : Int → Int) (w : Int) : lap es (fun v => s v + t v) w = lap es s w + lap es t w := by
  unfold lap
  rw [← sumE_add]
  apply sumE_congr
  intro e _
  simp only [lapE]
  split <;> split <;> omega
theorem lap_neg (es : List E) (s : Int → Int) (w : Int) : lap es (fun v => - s v) w = - lap es s w := by
  unfold lap
  rw [← sumE_neg]
  apply sumE_congr
  intro e _
  simp only [lapE]
  split <;> split <;> omega
theorem lap_sub (es : List E) (s t : Int → Int) (w : Int) : lap es (fun v => s v - t v) w = lap es s w - lap es t w := by
  have := lap_add es s (fun v => - t v) w
  rw [lap_neg] at this
  rw [show (fun v => s v - t v) = (fun v => s v + - t v) from funext fun v => by omega, this]
  omega
theorem lap_congr {n : Int} {es : List E} (hes : ∀ e ∈ es, EOk n e) {s t : Int → Int} (h : ∀ v, 0 ≤ v → v < n → s v = t v) (w : Int) : lap es s w = lap es t w := by
  apply sumE_congr
  intro e he
  have hk := hes e he
  unfold EOk at hk
  unfold lapE
  rw [h e.f0 (by omega) (by omega), h e.f1 (by omega) (by omega)]
theorem lap_const {es : List E} {s : Int → Int} {c : Int} (h : ∀ e ∈ es, s e.f0 = c ∧ s e.f1 = c) (w : Int) : lap es s w = 0 := by
  apply sumE_zero
  intro e he
  unfold lapE
  rw [(h e he).1, (h e he).2]
  split <;> split <;> omega
/-- Dirichlet's form. -/
theorem dirichlet {n : Nat} {es : List E} (hes : ∀ e ∈ es, EOk n e) (f s : Int → Int) : sumN n (fun i => f i * lap es s i) = sumE es (fun e => (f e.f0 - f e.f1) * (s e.f0 - s e.f1)) := by
  induction es with
  | nil => simp only [lap_nil, Int.mul_zero]; rw [sumN_zero]; rfl
  | cons e r ih =>
    have hk := hes e List.mem_cons_self
    unfold EOk at hk
    rw [sumE_cons, ← ih (fun x hx => hes x (List.mem_cons_of_mem _ hx))]
    have h1 : sumN n (fun i => f i * lap (e :: r) s i) = sumN n (fun i => f i * lapE s i e) + sumN n (fun i => f i * lap r s i) := by
      rw [← sumN_add]
      apply sumN_congr
      intro i _
      rw [lap_cons, Int.mul_add]
    rw [h1]
    congr 1
    have h2 : sumN n (fun i => f i * lapE s i e) = sumN n (fun i => if i = e.f0.toNat then f e.f0 * (s e.f0 - s e.f1) else 0) + sumN n (fun i => if i = e.f1.toNat then f e.f1 * (s e.f1 - s e.f0) else 0) := by
      rw [← sumN_add]
      apply sumN_congr
      intro i _
      unfold lapE
      have c0 : (e.f0 = (i : Int)) ↔ (i = e.f0.toNat) := by omega
      have c1 : (e.f1 = (i : Int)) ↔ (i = e.f1.toNat) := by omega
      rw [Int.mul_add]
      congr 1
      · by_cases h : e.f0 = (i : Int)
        · rw [if_pos h, if_pos (c0.1 h), h]
        · rw [if_neg h, if_neg (fun x => h (c0.2 x)), Int.mul_zero]
      · by_cases h : e.f1 = (i : Int)
        · rw [if_pos h, if_pos (c1.1 h), h]
        · rw [if_neg h, if_neg (fun x => h (c1.2 x)), Int.mul_zero]
    rw [h2, sumN_one _ (by omega), sumN_one _ (by omega)]
    rw [show s e.f1 - s e.f0 = -(s e.f0 - s e.f1) by omega, Int.mul_neg, Int.sub_mul]
    omega
/-- Across an edge out of a set that is above, no more than what the set loses. -/
theorem cut_le {n : Nat} {es : List E} (hes : ∀ e ∈ es, EOk n e) {s : Int → Int} {t C : Int} (hC : sumN n (fun i => ind (fun v => decide (t ≤ s v)) i * lap es s i) ≤ C) {a b : Int} (hab : Adj es a b) (ha : t ≤ s a) (hb : s b < t) : s a - s b ≤ C := by
  rw [dirichlet hes] at hC
  obtain ⟨e, he, hx⟩ := hab
  have hnn : ∀ e ∈ es, 0 ≤ (ind (fun v => decide (t ≤ s v)) e.f0 - ind (fun v => decide (t ≤ s v)) e.f1) * (s e.f0 - s e.f1) := by
    intro e _
    unfold ind
    by_cases h0 : t ≤ s e.f0 <;> by_cases h1 : t ≤ s e.f1 <;> simp [h0, h1] <;> omega
  have h1 := sumE_term hnn he
  have h2 : s a - s b ≤ (ind (fun v => decide (t ≤ s v)) e.f0 - ind (fun v => decide (t ≤ s v)) e.f1) * (s e.f0 - s e.f1) := by
    unfold ind
    rcases hx with ⟨x0, x1⟩ | ⟨x0, x1⟩
    · subst x0; subst x1
      have h1 : ¬ t ≤ s e.f1 := by omega
      simp [ha, h1]
    · subst x0; subst x1
      have h1 : ¬ t ≤ s e.f0 := by omega
      simp [ha, h1]
      omega
  omega
/-- From a set that is not all and not closed an edge leads out. -/
theorem exists_cut {es : List E} {S : Int → Prop} {a b : Int} (hab : Conn es a b) (ha : ¬ S a) (hb : S b) : ∃ u w, Adj es u w ∧ S u ∧ ¬ S w := by
  induction hab with
  | refl => exact absurd hb ha
  | @tail x y _ hadj ih =>
    by_cases hx : S x
    · exact ih hx
    · exact ⟨y, x, hadj.symm, hb, hx⟩
def below (n : Nat) (s : Int → Int) (t : Int) : Nat := (List.range n).countP (fun i => decide (s (i : Nat) < t))
/-- A script that is 0 at q, all of whose upper sets lose no more than C, is at most 6 C. -/
theorem script_le {n : Nat} {es : List E} (hes : ∀ e ∈ es, EOk n e) (hj : Joined n es) {q : Int} (hq : 0 ≤ q ∧ q < n) {s : Int → Int} {C : Int} (hC0 : 0 ≤ C) (hsq : s q ≤ 0)
    (hC : ∀ t : Int, 0 < t → sumN n (fun i => ind (fun v => decide (t ≤ s v)) i * lap es s i) ≤ C) : ∀ v : Int, 0 ≤ v → v < n → s v ≤ n * C := by
  have key : ∀ k : Nat, ∀ v : Int, 0 ≤ v → v < n → below n s (s v) ≤ k → s v ≤ k * C := by
    intro k
    induction k with
    | zero =>
      intro v h0 h1 hk
      apply Classical.byContradiction
      intro hc
      have hpos : 0 < below n s (s v) := by
        unfold below
        rw [List.countP_pos_iff]
        refine ⟨q.toNat, List.mem_range.2 (by omega), ?_⟩
        have : ((q.toNat : Nat) : Int) = q := by omega
        rw [this]
        simp
        omega
      omega
    | succ k ih =>
      intro v h0 h1 hk
      by_cases hpos : s v ≤ 0
      · have : 0 ≤ ((k + 1 : Nat) : Int) * C := Int.mul_nonneg (by omega) hC0
        omega
      · have hqv : Conn es q v := ((hj q hq.1 hq.2).symm).trans (hj v h0 h1)
        obtain ⟨u, w, hadj, hu, hw⟩ := exists_cut (S := fun x => s v ≤ s x) hqv (by omega) (Int.le_refl _)
        have hcut := cut_le hes (hC (s v) (by omega)) hadj hu (by omega)
        have hw0 := EsOk.adj hes hadj
        have hlt : below n s (s w) < below n s (s v) := by
          refine countP_lt (fun x _ hx => ?_) ⟨w.toNat, List.mem_range.2 (by omega), ?_, ?_⟩
          · simp only [decide_eq_true_eq] at hx ⊢
            omega
          · have : ((w.toNat : Nat) : Int) = w := by omega
            rw [this]; simp
          · have : ((w.toNat : Nat) : Int) = w := by omega
            rw [this]; simp; omega
        have := ih w hw0.1 hw0.2 (by omega)
        rw [Int.natCast_succ, Int.add_mul, Int.one_mul]
        omega
  intro v h0 h1
  refine key n v h0 h1 ?_
  have := List.countP_le_length (p := fun i => decide (s ((i : Nat) : Int) < s v)) (l := List.range n)
  rw [List.length_range] at this
  exact this
theorem script_bd {n : Nat} {es : List E} (hes : ∀ e ∈ es, EOk n e) (hj : Joined n es) {q : Int} (hq : 0 ≤ q ∧ q < n) {s : Int → Int} {c : Int} (hc : 0 ≤ c) (hsq : s q ≤ 0)
    (h : ∀ v : Int, 0 ≤ v → v < n → 0 < s v → lap es s v ≤ c) : ∀ v : Int, 0 ≤ v → v < n → s v ≤ n * (n * c) := by
  refine script_le hes hj hq (Int.mul_nonneg (by omega) hc) hsq ?_
  intro t ht
  rw [← sumN_const]
  apply sumN_le
  intro i hi
  unfold ind
  by_cases hx : t ≤ s i
  · simp only [hx, decide_true, if_true, Int.one_mul]
    exact h i (by omega) (by omega) (by omega)
  · simp only [hx, decide_false, Int.zero_mul, Bool.false_eq_true, if_false]
    exact hc
def valE (v : Int) (e : E) : Int := if e.f0 = v ∨ e.f1 = v then 1 else 0
/-- The number of edges at a vertex. -/
def val (es : List E) (v : Int) : Int := sumE es (valE v)
def multE (a b : Int) (e : E) : Int := if (e.f0 = a ∧ e.f1 = b) ∨ (e.f0 = b ∧ e.f1 = a) then 1 else 0
/-- The number of edges between two vertices. -/
def mult (es : List E) (a b : Int) : Int := sumE es (multE a b)
theorem val_nonneg (es : List E) (v : Int) : 0 ≤ val es v := sumE_nonneg fun e _ => by unfold valE; split <;> omega
theorem mult_nonneg (es : List E) (a b : Int) : 0 ≤ mult es a b := sumE_nonneg fun e _ => by unfold multE; split <;> omega
/-- One vertex fires: it loses its valence. -/
theorem lap_one_self {n : Int} {es : List E} (hes : ∀ e ∈ es, EOk n e) (v t : Int) : lap es (one v t) v = t * val es v := by
  unfold lap val
  rw [← sumE_mul]
  apply sumE_congr
  intro e he
  have hk := hes e he
  unfold EOk at hk
  unfold lapE valE one
  by_cases a : e.f0 = v
  · have b : ¬ e.f1 = v := by omega
    simp [a, b]
  · by_cases b : e.f1 = v
    · simp [a, b]
    · simp [a, b]
/-- .. and another one gains along their edges. -/
theorem lap_one_ne {n : Int} {es : List E} (hes : ∀ e ∈ es, EOk n e) {v w : Int} (hvw : w ≠ v) (t : Int) : lap es (one v t) w = - (t * mult es v w) := by
  unfold lap mult
  rw [← sumE_mul, ← sumE_neg]
  apply sumE_congr
  intro e he
  have hk := hes e he
  unfold EOk at hk
  unfold lapE multE one
  by_cases a : e.f0 = w
  · have b : ¬ e.f1 = w := by omega
    have c : ¬ e.f0 = v := by omega
    by_cases x : e.f1 = v
    · simp [a, x]; omega
    · simp [a, b, x, hvw]
  · by_cases b : e.f1 = w
    · have c : ¬ e.f1 = v := by omega
      by_cases x : e.f0 = v
      · simp [a, b, x]; omega
      · simp [a, b, x, hvw]
    · simp [a, b]
theorem val_pos {n : Nat} {es : List E} (hj : Joined n es) {q v : Int} (hq : 0 ≤ q ∧ q < n) (hv : 0 ≤ v ∧ v < n) (hne : v ≠ q) : 0 < val es v := by
  have hc : Conn es q v := ((hj q hq.1 hq.2).symm).trans (hj v hv.1 hv.2)
  obtain ⟨u, w, ⟨e, he, hx⟩, hu, hw⟩ := exists_cut (S := fun x => x = v) hc (fun h => hne h.symm) rfl
  subst hu
  have h1 := sumE_term (f := valE u) (fun e _ => by unfold valE; split <;> omega) he
  have h2 : valE u e = 1 := by
    unfold valE
    rw [if_pos]
    rcases hx with ⟨a, _⟩ | ⟨_, b⟩
    · exact .inl a
    · exact .inr b
  unfold val
  omega
/-- s is reached from p by toppling unstable vertices other than q. -/
inductive Legal (n : Nat) (es : List E) (q : Int) (p : Int → Int) : (Int → Int) → Prop
  | zero : Legal n es q p (fun _ => 0)
  | step {s : Int → Int} {v : Int} : Legal n es q p s → 0 ≤ v → v < n → v ≠ q → val es v ≤ p v - lap es s v → Legal n es q p (fun w => s w + one v 1 w)
def Stable (n : Nat) (es : List E) (q : Int) (d : Int → Int) : Prop := ∀ v : Int, 0 ≤ v → v < n → v ≠ q → d v < val es v
theorem lap_le_zero {es : List E} {r : Int → Int} {v : Int} (h : ∀ w, 0 ≤ r w) (hv : r v = 0) : lap es r v ≤ 0 := by
  have := sumE_le (es := es) (f := lapE r v) (g := fun _ => 0) (fun e _ => by
    unfold lapE
    have h0 := h e.f0
    have h1 := h e.f1
    by_cases a : e.f0 = v
    · by_cases b : e.f1 = v
      · simp [a, b]
      · rw [if_pos a, if_neg b, a, hv]; omega
    · by_cases b : e.f1 = v
      · rw [if_neg a, if_pos b, b, hv]; omega
      · rw [if_neg a, if_neg b]; omega)
  rw [sumE_zero (fun _ _ => rfl)] at this
  exact this
theorem Legal.nonneg {n : Nat} {es : List E} {q : Int} {p s : Int → Int} (h : Legal n es q p s) : (∀ w, 0 ≤ s w) ∧ s q = 0 := by
  induction h with
  | zero => exact ⟨fun _ => Int.le_refl _, rfl⟩
  | @step s v _ _ _ hq _ ih =>
    refine ⟨fun w => ?_, ?_⟩
    · have := ih.1 w
      show 0 ≤ s w + one v 1 w
      unfold one
      split <;> omega
    · have := ih.2
      show s q + one v 1 q = 0
      unfold one
      rw [if_neg (fun x : q = v => hq x.symm)]
      omega
/-- The least action: a legal script is at most any script that stabilizes. -/
theorem Legal.least {n : Nat} {es : List E} {q : Int} {p s t : Int → Int} (h : Legal n es q p s) (ht : ∀ w, 0 ≤ t w) (hst : Stable n es q (fun v => p v - lap es t v)) : ∀ w, s w ≤ t w := by
  induction h with
  | zero => exact ht
  | @step s v _ h0 h1 hq hv ih =>
    intro w
    show s w + one v 1 w ≤ t w
    unfold one
    by_cases e : w = v
    · subst e
      rw [if_pos rfl]
      have := ih w
      by_cases hlt : s w < t w
      · omega
      · exfalso
        have hle := lap_le_zero (es := es) (r := fun x => t x - s x) (v := w) (fun x => by have := ih x; omega) (by omega)
        rw [lap_sub] at hle
        have := hst w h0 h1 hq
        simp only at this
        omega
    · rw [if_neg e]
      have := ih w
      omega
/-- Two legal scripts that stabilize are one. -/
theorem Legal.unique {n : Nat} {es : List E} {q : Int} {p s t : Int → Int} (hs : Legal n es q p s) (ht : Legal n es q p t) (ss : Stable n es q (fun v => p v - lap es s v)) (st : Stable n es q (fun v => p v - lap es t v)) : s = t := by
  funext w
  have := hs.least ht.nonneg.1 st w
  have := ht.least hs.nonneg.1 ss w
  omega
/-- Several topplings of one vertex at once. -/
theorem Legal.many {n : Nat} {es : List E} (hes : ∀ e ∈ es, EOk n e) {q : Int} {p s : Int → Int} (h : Legal n es q p s) {v : Int} (h0 : 0 ≤ v) (h1 : v < n) (hq : v ≠ q) : ∀ k : Nat, k * val es v ≤ p v - lap es s v → Legal n es q p (fun w => s w + one v k w)
  | 0, _ => by
    have : (fun w => s w + one v ((0 : Nat) : Int) w) = s := by
      funext w
      unfold one
      split <;> simp
    rw [this]
    exact h
  | k + 1, hk => by
    have hv := val_nonneg es v
    rw [Int.natCast_succ, Int.add_mul] at hk
    have ih := Legal.many hes h h0 h1 hq k (by omega)
    have := Legal.step ih h0 h1 hq (by
      rw [lap_add, lap_one_self hes]
      omega)
    have e : (fun w => s w + one v ((k + 1 : Nat) : Int) w) = fun w => s w + one v (k : Int) w + one v 1 w := by
      funext w
      unfold one
      split <;> omega
    rw [e]
    exact this
end Go.Proofs.Ytjecgolakaiddaa.Cf
end

section
namespace Go.Proofs.Ytjecgolakaiddaa.Cf
set_option linter.unusedVariables false
set_option linter.unusedSimpArgs false
open Go.RowKit Go.Proofs.YtjecgolakaiddaaW.PrintWords Go.Proofs.Ytjecgolakaiddaa.P
/-- A divisor. -/
def dOk (n : Int) (es : List E) (d : List Int) : Bool := gOk n es && (decide ((d.length : Int) = n) && decide (∀ x ∈ d, -60 ≤ x ∧ x ≤ 60))
theorem dOk_iff {n : Int} {es : List E} {d : List Int} : dOk n es d = true ↔ GOk n es ∧ (d.length : Int) = n ∧ ∀ x ∈ d, -60 ≤ x ∧ x ≤ 60 := by
  unfold dOk
  simp only [Bool.and_eq_true, decide_eq_true_eq, gOk_iff]
theorem specDiv_l0 (o : List Int) (hl : o.length ≤ 1048576) : ∀ (d i : Nat), i + d = o.length → Ep (fun k => spec_DivisorOk.l0 k o (o.length : Int) (i : Int)) (· = decide (∀ x ∈ o.drop i, -60 ≤ x ∧ x ≤ 60)) := by
  intro d
  induction d with
  | zero =>
    intro i hi
    refine Ep.up ?_
    simp only [spec_DivisorOk.l0]
    refine Ep.neg (by omega) (Ep.now ?_)
    rw [List.drop_of_length_le (by omega)]
    simp
  | succ d ih =>
    intro i hi
    have hlt : i < o.length := by omega
    refine Ep.up ?_
    simp only [spec_DivisorOk.l0]
    refine Ep.pos (by omega) (Ep.pos (by omega) (Ep.pos (by omega) ?_))
    rw [rd_get hlt, wrap_succ (by omega)]
    refine Ep.bind0 (l01In_eq _ _ _) ?_
    refine Ep.ite (fun h => ?_) (fun h => Ep.now ?_)
    · have h' : -60 ≤ o[i] ∧ o[i] ≤ 60 := by simpa using h
      refine (ih (i + 1) (by omega)).mono ?_
      rintro _ rfl
      simp only [forall_drop' hlt, h', true_and]
    · have h' : ¬ (-60 ≤ o[i] ∧ o[i] ≤ 60) := by simpa using h
      simp only [forall_drop' hlt, h', false_and, decide_false]
theorem specDiv (n : Int) (es : List E) (d : List Int) (hl : d.length ≤ 1048576) : Ep (fun k => spec_DivisorOk.f k n es d) (· = dOk n es d) := by
  simp only [spec_DivisorOk.f, dOk]
  refine Ep.bind (specGraph n es) ?_
  rintro _ rfl
  refine Ep.ite (fun hg => ?_) (fun hg => ?_)
  · refine Ep.up ?_
    simp only [spec_DivisorOk.j0]
    refine Ep.ite (fun h => Ep.now ?_) (fun h => ?_)
    · have h' : ¬ (d.length : Int) = n := by simpa using h
      simp [h']
    · have h' : (d.length : Int) = n := by simpa using h
      refine (specDiv_l0 d hl d.length 0 (by omega)).mono ?_
      rintro _ rfl
      rw [List.drop_zero, hg]
      simp only [h', decide_true, Bool.true_and]
  · refine Ep.up ?_
    simp only [spec_DivisorOk.j0]
    refine Ep.pos trivial (Ep.now ?_)
    have : gOk n es = false := by simpa using hg
    simp [this]
theorem implDiv (n : Int) (es : List E) (d : List Int) (hl : d.length ≤ 1048576) : Ep (fun k => impl_DivisorOk.f k n es d) (· = dOk n es d) := by
  simp only [impl_DivisorOk.f, dOk]
  refine Ep.bind0 (implGraph n es) (Ep.ite (fun hg => ?_) (fun hg => Ep.now ?_))
  · refine Ep.ite (fun h => ?_) (fun h => Ep.now ?_)
    · refine Ep.bind (allWithin_ok d (-60) 60 hl) ?_
      rintro _ rfl
      refine Ep.now ?_
      rw [hg]
      simp only [h, decide_true, Bool.true_and]
    · simp [h]
  · have : gOk n es = false := by simpa using hg
    simp [this]
theorem specEff_l0 (o : List Int) (hl : o.length ≤ 1048576) : ∀ (d i : Nat), i + d = o.length → Ep (fun k => spec_IsEffective.l0 k o (o.length : Int) (i : Int)) (· = decide (∀ x ∈ o.drop i, 0 ≤ x)) := by
  intro d
  induction d with
  | zero =>
    intro i hi
    refine Ep.up ?_
    simp only [spec_IsEffective.l0]
    refine Ep.neg (by omega) (Ep.now ?_)
    rw [List.drop_of_length_le (by omega)]
    simp
  | succ d ih =>
    intro i hi
    have hlt : i < o.length := by omega
    refine Ep.up ?_
    simp only [spec_IsEffective.l0]
    refine Ep.pos (by omega) (Ep.pos (by omega) (Ep.pos (by omega) ?_))
    rw [rd_get hlt, wrap_succ (by omega)]
    refine Ep.ite (fun h => Ep.now ?_) (fun h => ?_)
    · have h' : ¬ 0 ≤ o[i] := by omega
      simp only [forall_drop' hlt, h', false_and, decide_false]
    · have h' : 0 ≤ o[i] := by omega
      refine (ih (i + 1) (by omega)).mono ?_
      rintro _ rfl
      simp only [forall_drop' hlt, h', true_and]
theorem specEff (d : List Int) (hl : d.length ≤ 1048576) : Ep (fun k => spec_IsEffective.f k d) (· = decide (∀ x ∈ d, 0 ≤ x)) := by
  have := specEff_l0 d hl d.length 0 (by omega)
  simp only [spec_IsEffective.f]
  rw [List.drop_zero] at this
  exact this
theorem implEff_l0 (o : List Int) (hl : o.length ≤ 1048576) : ∀ (d i : Nat), i + d = o.length → Ep (fun k => impl_IsEffective.l0 k o (o.length : Int) (i : Int)) (· = decide (∀ x ∈ o.drop i, 0 ≤ x)) := by
  intro d
  induction d with
  | zero =>
    intro i hi
    refine Ep.up ?_
    simp only [impl_IsEffective.l0]
    refine Ep.neg (by omega) (Ep.now ?_)
    rw [List.drop_of_length_le (by omega)]
    simp
  | succ d ih =>
    intro i hi
    have hlt : i < o.length := by omega
    refine Ep.up ?_
    simp only [impl_IsEffective.l0]
    refine Ep.pos (by omega) (Ep.pos (by omega) (Ep.pos (by omega) ?_))
    rw [rd_get hlt, wrap_succ (by omega)]
    refine Ep.ite (fun h => Ep.now ?_) (fun h => ?_)
    · have h' : ¬ 0 ≤ o[i] := by omega
      simp only [forall_drop' hlt, h', false_and, decide_false]
    · have h' : 0 ≤ o[i] := by omega
      refine (ih (i + 1) (by omega)).mono ?_
      rintro _ rfl
      simp only [forall_drop' hlt, h', true_and]
theorem implEff (d : List Int) (hl : d.length ≤ 1048576) : Ep (fun k => impl_IsEffective.f k d) (· = decide (∀ x ∈ d, 0 ≤ x)) := by
  have := implEff_l0 d hl d.length 0 (by omega)
  simp only [impl_IsEffective.f]
  rw [List.drop_zero] at this
  exact this
/-- A configuration. -/
def pOk (n : Int) (es : List E) (p : List Int) (q : Int) : Bool := dOk n es p && (decide (0 ≤ q ∧ q < n) && (decide (∀ x ∈ p, 0 ≤ x) && decide (rd p q = 0)))
theorem pOk_iff {n : Int} {es : List E} {p : List Int} {q : Int} : pOk n es p q = true ↔ (GOk n es ∧ (p.length : Int) = n ∧ ∀ x ∈ p, -60 ≤ x ∧ x ≤ 60) ∧ (0 ≤ q ∧ q < n) ∧ (∀ x ∈ p, 0 ≤ x) ∧ rd p q = 0 := by
  unfold pOk
  simp only [Bool.and_eq_true, decide_eq_true_eq, dOk_iff]
theorem specPile (n : Int) (es : List E) (p : List Int) (q : Int) (hl : p.length ≤ 1048576) : Ep (fun k => spec_PileOk.f k n es p q) (· = pOk n es p q) := by
  simp only [spec_PileOk.f, pOk]
  refine Ep.bind (specDiv n es p hl) ?_
  rintro _ rfl
  refine Ep.ite (fun hd => ?_) (fun hd => Ep.now ?_)
  · obtain ⟨⟨⟨h1, h6, _, _⟩, _, _⟩, hpl, _⟩ := dOk_iff.1 hd
    rw [wrap_id (x := n - 1) (by omega) (by omega)]
    refine Ep.bind0 (l01In_eq _ _ _) ?_
    have hq : (0 ≤ q ∧ q ≤ n - 1) ↔ (0 ≤ q ∧ q < n) := by omega
    simp only [hq]
    refine Ep.ite (fun h => ?_) (fun h => Ep.now ?_)
    · refine Ep.bind (specEff p hl) ?_
      rintro _ rfl
      have h' : 0 ≤ q ∧ q < n := by simpa using h
      refine Ep.ite (fun he => Ep.pos h'.1 (Ep.pos (by omega) (Ep.now ?_))) (fun he => Ep.now ?_)
      · rw [hd, h, he]
        rfl
      · have he' : decide (∀ x ∈ p, 0 ≤ x) = false := by simpa using he
        rw [he']
        simp
    · have h' : decide (0 ≤ q ∧ q < n) = false := by simpa using h
      rw [h']
      simp
  · have hd' : dOk n es p = false := by simpa using hd
    rw [hd']
    rfl
theorem implPile (n : Int) (es : List E) (p : List Int) (q : Int) (hl : p.length ≤ 1048576) : Ep (fun k => impl_PileOk.f k n es p q) (· = pOk n es p q) := by
  simp only [impl_PileOk.f, pOk]
  refine Ep.bind (implDiv n es p hl) ?_
  rintro _ rfl
  refine Ep.ite (fun hd => ?_) (fun hd => Ep.now ?_)
  · obtain ⟨⟨⟨h1, h6, _, _⟩, _, _⟩, hpl, _⟩ := dOk_iff.1 hd
    rw [wrap_id (x := n - 1) (by omega) (by omega)]
    refine Ep.bind0 (within_eq _ _ _) ?_
    have hq : (0 ≤ q ∧ q ≤ n - 1) ↔ (0 ≤ q ∧ q < n) := by omega
    simp only [hq]
    refine Ep.ite (fun h => ?_) (fun h => Ep.now ?_)
    · refine Ep.bind (implEff p hl) ?_
      rintro _ rfl
      have h' : 0 ≤ q ∧ q < n := by simpa using h
      refine Ep.ite (fun he => Ep.pos h'.1 (Ep.pos (by omega) (Ep.now ?_))) (fun he => Ep.now ?_)
      · rw [hd, h, he]
        rfl
      · have he' : decide (∀ x ∈ p, 0 ≤ x) = false := by simpa using he
        rw [he']
        simp
    · have h' : decide (0 ≤ q ∧ q < n) = false := by simpa using h
      rw [h']
      simp
  · have hd' : dOk n es p = false := by simpa using hd
    rw [hd']
    rfl
/-- The valence, 0 where there is no such vertex. -/
def valG (n : Int) (es : List E) (v : Int) : Int := if 0 ≤ v ∧ v < n then val es v else 0
theorem val_drop {es : List E} {i : Nat} (h : i < es.length) (v : Int) : val (es.drop i) v = valE v es[i] + val (es.drop (i + 1)) v := by
  rw [List.drop_eq_getElem_cons h]
  exact sumE_cons _ _ _
theorem specVal_loop (v : Int) (es : List E) (hl : es.length ≤ 1048576) : ∀ (d i : Nat) (a : Int), i + d = es.length → 0 ≤ a → a ≤ i → Ep (fun k => spec_Valence.l0 k v a es (es.length : Int) (i : Int)) (· = a + val (es.drop i) v) := by
  intro d
  induction d with
  | zero =>
    intro i a hi h0 ha
    refine Ep.up ?_
    simp only [spec_Valence.l0]
    refine Ep.neg (by omega) (Ep.now ?_)
    rw [List.drop_of_length_le (by omega)]
    simp [val, sumE]
  | succ d ih =>
    intro i a hi h0 ha
    have hlt : i < es.length := by omega
    refine Ep.up ?_
    simp only [spec_Valence.l0]
    refine Ep.pos (by omega) (Ep.pos (by omega) (Ep.pos (by omega) ?_))
    rw [rdE_get hlt, wrap_succ (by omega), wrap_id (x := a + 1) (by omega) (by omega), val_drop hlt]
    refine Ep.ite (fun h => ?_) (fun h => Ep.ite (fun h2 => ?_) (fun h2 => ?_))
    · refine (ih (i + 1) (a + 1) (by omega) (by omega) (by omega)).mono ?_
      rintro _ rfl
      unfold valE
      rw [if_pos (.inl h)]
      omega
    · refine (ih (i + 1) (a + 1) (by omega) (by omega) (by omega)).mono ?_
      rintro _ rfl
      unfold valE
      rw [if_pos (.inr h2)]
      omega
    · refine (ih (i + 1) a (by omega) h0 (by omega)).mono ?_
      rintro _ rfl
      unfold valE
      rw [if_neg (by rintro (x | x); exact h x; exact h2 x)]
      omega
theorem specValence (n : Int) (es : List E) (v : Int) (hl : es.length ≤ 1048576) : Ep (fun k => spec_Valence.f k n es v) (· = valG n es v) := by
  have hv : spec_l02Vert.f n es v = some (decide (0 ≤ v ∧ v < n)) := by
    unfold spec_l02Vert.f
    by_cases h : v ≥ 0
    · rw [if_pos h]
      have : (0 ≤ v ∧ v < n) ↔ v < n := ⟨fun x => x.2, fun x => ⟨h, x⟩⟩
      simp only [this]
    · rw [if_neg h]
      have : ¬ (0 ≤ v ∧ v < n) := fun x => h x.1
      simp only [this, decide_false]
  simp only [spec_Valence.f, valG]
  refine Ep.bind0 hv (Ep.ite (fun h => ?_) (fun h => Ep.now ?_))
  · refine (specVal_loop v es hl es.length 0 0 (by omega) (by omega) (by omega)).mono ?_
    rintro _ rfl
    rw [if_pos (by simpa using h), List.drop_zero]
    omega
  · rw [if_neg (by simpa using h)]
theorem implVal_loop (v : Int) (es : List E) (hl : es.length ≤ 1048576) : ∀ (d i : Nat) (a : Int), i + d = es.length → 0 ≤ a → a ≤ i → Ep (fun k => impl_Valence.l0 k v a es (es.length : Int) (i : Int)) (· = a + val (es.drop i) v) := by
  intro d
  induction d with
  | zero =>
    intro i a hi h0 ha
    refine Ep.up ?_
    simp only [impl_Valence.l0]
    refine Ep.neg (by omega) (Ep.now ?_)
    rw [List.drop_of_length_le (by omega)]
    simp [val, sumE]
  | succ d ih =>
    intro i a hi h0 ha
    have hlt : i < es.length := by omega
    refine Ep.up ?_
    simp only [impl_Valence.l0]
    refine Ep.pos (by omega) (Ep.pos (by omega) (Ep.pos (by omega) ?_))
    rw [rdE_get hlt, wrap_succ (by omega), wrap_id (x := a + 1) (by omega) (by omega), val_drop hlt]
    refine Ep.ite (fun h => ?_) (fun h => Ep.ite (fun h2 => ?_) (fun h2 => ?_))
    · refine (ih (i + 1) (a + 1) (by omega) (by omega) (by omega)).mono ?_
      rintro _ rfl
      unfold valE
      rw [if_pos (.inl h)]
      omega
    · refine (ih (i + 1) (a + 1) (by omega) (by omega) (by omega)).mono ?_
      rintro _ rfl
      unfold valE
      rw [if_pos (.inr h2)]
      omega
    · refine (ih (i + 1) a (by omega) h0 (by omega)).mono ?_
      rintro _ rfl
      unfold valE
      rw [if_neg (by rintro (x | x); exact h x; exact h2 x)]
      omega
theorem implValence (n : Int) (es : List E) (v : Int) (hl : es.length ≤ 1048576) : Ep (fun k => impl_Valence.f k n es v) (· = valG n es v) := by
  simp only [impl_Valence.f, valG]
  refine Ep.ite (fun h => ?_) (fun h => ?_)
  · refine Ep.up ?_
    simp only [impl_Valence.j0]
    refine Ep.pos trivial (Ep.now ?_)
    rw [if_neg (by omega)]
  · refine Ep.up ?_
    simp only [impl_Valence.j0]
    refine Ep.ite (fun h2 => Ep.now ?_) (fun h2 => ?_)
    · have : v ≥ n := by simpa using h2
      rw [if_neg (by omega)]
    · have : ¬ v ≥ n := by simpa using h2
      refine (implVal_loop v es hl es.length 0 0 (by omega) (by omega) (by omega)).mono ?_
      rintro _ rfl
      rw [if_pos (by omega), List.drop_zero]
      omega
/-- The first unstable vertex, from one on; or -1. -/
def unst (n : Int) (es : List E) (q : Int) (p : List Int) : Nat → Nat → Int
  | 0, _ => -1
  | d + 1, i => if (i : Int) = q then unst n es q p d (i + 1) else if rd p i ≥ valG n es i then i else unst n es q p d (i + 1)
theorem specUnst_l0 (n : Int) (es : List E) (q : Int) (p : List Int) (hel : es.length ≤ 1048576) (hl : p.length ≤ 1048576) : ∀ (d i : Nat), i + d = p.length → Ep (fun k => spec_l10Unstable.l0 k q p (p.length : Int) (i : Int) n es) (· = unst n es q p d i) := by
  intro d
  induction d with
  | zero =>
    intro i hi
    refine Ep.up ?_
    simp only [spec_l10Unstable.l0]
    exact Ep.neg (by omega) (Ep.now rfl)
  | succ d ih =>
    intro i hi
    refine Ep.up ?_
    simp only [spec_l10Unstable.l0]
    refine Ep.pos (by omega) (Ep.pos (by omega) (Ep.pos (by omega) ?_))
    rw [wrap_succ (by omega)]
    unfold unst
    refine Ep.ite (fun h => ?_) (fun h => ?_)
    · rw [if_pos h]
      exact ih (i + 1) (by omega)
    · rw [if_neg h]
      refine Ep.bind (specValence n es i hel) ?_
      rintro _ rfl
      refine Ep.ite (fun h2 => Ep.now ?_) (fun h2 => ?_)
      · rw [if_pos h2]
      · rw [if_neg h2]
        exact ih (i + 1) (by omega)
theorem specUnst (n : Int) (es : List E) (p : List Int) (q : Int) (hel : es.length ≤ 1048576) (hl : p.length ≤ 1048576) : Ep (fun k => spec_l10Unstable.f k n es p q) (· = unst n es q p p.length 0) := by
  have := specUnst_l0 n es q p hel hl p.length 0 (by omega)
  simp only [spec_l10Unstable.f]
  exact this
theorem implUnst_l0 (n : Int) (es : List E) (q : Int) (p : List Int) (hel : es.length ≤ 1048576) (hl : p.length ≤ 1048576) : ∀ (d i : Nat), i + d = p.length → Ep (fun k => impl_unstable.l0 k q p (p.length : Int) (i : Int) n es) (· = unst n es q p d i) := by
  intro d
  induction d with
  | zero =>
    intro i hi
    refine Ep.up ?_
    simp only [impl_unstable.l0]
    exact Ep.neg (by omega) (Ep.now rfl)
  | succ d ih =>
    intro i hi
    refine Ep.up ?_
    simp only [impl_unstable.l0]
    refine Ep.pos (by omega) (Ep.pos (by omega) (Ep.pos (by omega) ?_))
    rw [wrap_succ (by omega)]
    unfold unst
    refine Ep.ite (fun h => ?_) (fun h => ?_)
    · rw [if_pos h]
      exact ih (i + 1) (by omega)
    · rw [if_neg h]
      refine Ep.bind (implValence n es i hel) ?_
      rintro _ rfl
      refine Ep.ite (fun h2 => Ep.now ?_) (fun h2 => ?_)
      · rw [if_pos h2]
      · rw [if_neg h2]
        exact ih (i + 1) (by omega)
theorem implUnst (n : Int) (es : List E) (p : List Int) (q : Int) (hel : es.length ≤ 1048576) (hl : p.length ≤ 1048576) : Ep (fun k => impl_unstable.f k n es p q) (· = unst n es q p p.length 0) := by
  have := implUnst_l0 n es q p hel hl p.length 0 (by omega)
  simp only [impl_unstable.f]
  exact this
/-- A stable configuration. -/
def sOk (n : Int) (es : List E) (p : List Int) (q : Int) : Bool := pOk n es p q && decide (unst n es q p p.length 0 < 0)
theorem specStable (n : Int) (es : List E) (p : List Int) (q : Int) (hel : es.length ≤ 1048576) (hl : p.length ≤ 1048576) : Ep (fun k => spec_IsStable.f k n es p q) (· = sOk n es p q) := by
  simp only [spec_IsStable.f, sOk]
  refine Ep.bind (specPile n es p q hl) ?_
  rintro _ rfl
  refine Ep.ite (fun h => ?_) (fun h => Ep.now ?_)
  · refine Ep.bind (specUnst n es p q hel hl) ?_
    rintro _ rfl
    refine Ep.now ?_
    rw [h]
    rfl
  · have : pOk n es p q = false := by simpa using h
    rw [this]
    rfl
theorem implStable (n : Int) (es : List E) (p : List Int) (q : Int) (hel : es.length ≤ 1048576) (hl : p.length ≤ 1048576) : Ep (fun k => impl_IsStable.f k n es p q) (· = sOk n es p q) := by
  simp only [impl_IsStable.f, sOk]
  refine Ep.bind (implPile n es p q hl) ?_
  rintro _ rfl
  refine Ep.ite (fun h => ?_) (fun h => Ep.now ?_)
  · refine Ep.bind (implUnst n es p q hel hl) ?_
    rintro _ rfl
    refine Ep.now ?_
    rw [h]
    rfl
  · have : pOk n es p q = false := by simpa using h
    rw [this]
    rfl
end Go.Proofs.Ytjecgolakaiddaa.Cf
end

section
namespace Go.Proofs.Ytjecgolakaiddaa.Cf
set_option linter.unusedVariables false
set_option linter.unusedSimpArgs false
theorem sumE_bd {es : List E} {f : E → Int} {S : Int} (h : ∀ e ∈ es, -S ≤ f e ∧ f e ≤ S) : -(es.length * S) ≤ sumE es f ∧ sumE es f ≤ es.length * S := by
  induction es with
  | nil => simp [sumE]
  | cons e r ih =>
    rw [sumE_cons]
    have := ih (fun x hx => h x (List.mem_cons_of_mem _ hx))
    have := h e List.mem_cons_self
    rw [List.length_cons, Int.natCast_succ, Int.add_mul, Int.one_mul]
    omega
theorem lap_bd {n : Int} {es : List E} (hes : ∀ e ∈ es, EOk n e) (hel : es.length ≤ 12) {s : Int → Int} {L S : Int} (hS : 0 ≤ S) (h : ∀ v, 0 ≤ v → v < n → L ≤ s v ∧ s v ≤ L + S) (w : Int) : -(12 * S) ≤ lap es s w ∧ lap es s w ≤ 12 * S := by
  have h1 := sumE_bd (es := es) (f := lapE s w) (S := S) (fun e he => by
    have hk := hes e he
    unfold EOk at hk
    have h0 := h e.f0 (by omega) (by omega)
    have h1 := h e.f1 (by omega) (by omega)
    unfold lapE
    by_cases a : e.f0 = w
    · rw [if_pos a, if_neg (by omega)]; omega
    · rw [if_neg a]
      by_cases b : e.f1 = w
      · rw [if_pos b]; omega
      · rw [if_neg b]; omega)
  have h2 : (es.length : Int) * S ≤ 12 * S := Int.mul_le_mul_of_nonneg_right (by omega) hS
  unfold lap
  omega
theorem sumN_le_const {n : Nat} {f : Nat → Int} {c : Int} (h : ∀ i, i < n → f i ≤ c) : sumN n f ≤ n * c := by
  rw [← sumN_const]
  exact sumN_le h
theorem one_nat (v t : Int) (i : Nat) : one v t (i : Int) = if (i : Int) = v then t else 0 := rfl
theorem sumN_one' {n : Nat} {v : Int} (h0 : 0 ≤ v) (h1 : v < n) (t : Int) : sumN n (fun i => one v t (i : Int)) = t := by
  have := sumN_one (n := n) v.toNat (by omega) t
  refine (sumN_congr fun i _ => ?_).trans this
  rw [one_nat]
  have : ((i : Int) = v) ↔ i = v.toNat := by omega
  simp only [this]
theorem Legal.keeps1 {n : Nat} {es : List E} (hes : ∀ e ∈ es, EOk n e) {q : Int} {p s : Int → Int} (h : Legal n es q p s) : ∀ v : Int, 0 ≤ v → v < n → 0 < s v → 0 ≤ p v - lap es s v := by
  induction h with
  | zero => intro v _ _ h; exact absurd h (by simp)
  | @step s u hl h0 h1 hq hv ih =>
    intro w k0 k1 hs
    rw [lap_add]
    by_cases e : w = u
    · subst e
      rw [lap_one_self hes]
      omega
    · rw [lap_one_ne hes e]
      have := mult_nonneg es u w
      have := ih w k0 k1 (by
        have hs' : 0 < s w + one u 1 w := hs
        unfold one at hs'
        rw [if_neg e] at hs'
        omega)
      omega
theorem Legal.bound1 {n : Nat} {es : List E} (hes : ∀ e ∈ es, EOk n e) (hj : Joined n es) {q : Int} (hq : 0 ≤ q ∧ q < n) {p s : Int → Int} (h : Legal n es q p s) {c : Int} (hc : 0 ≤ c) (hpc : ∀ v : Int, 0 ≤ v → v < n → v ≠ q → p v ≤ c) : ∀ v : Int, 0 ≤ v → v < n → s v ≤ n * (n * c) := by
  refine script_bd hes hj hq hc (by rw [h.nonneg.2]; exact Int.le_refl _) ?_
  intro v h0 h1 hs
  have hne : v ≠ q := by rintro rfl; rw [h.nonneg.2] at hs; omega
  have := h.keeps1 hes v h0 h1 hs
  have := hpc v h0 h1 hne
  omega
theorem sq_le {n : Nat} (hn : n ≤ 6) {c : Int} (hc : 0 ≤ c) : (n : Int) * (n * c) ≤ 36 * c := by
  have h1 : (n : Int) * c ≤ 6 * c := Int.mul_le_mul_of_nonneg_right (by omega) hc
  have h2 : (n : Int) * (n * c) ≤ n * (6 * c) := Int.mul_le_mul_of_nonneg_left h1 (by omega)
  have h3 : (n : Int) * (6 * c) ≤ 6 * (6 * c) := Int.mul_le_mul_of_nonneg_right (by omega) (by omega)
  omega
/-- A legal script of no more than 36 c a vertex: all in all 216 c. -/
theorem Legal.small {n : Nat} (hn : n ≤ 6) {es : List E} (hes : ∀ e ∈ es, EOk n e) (hj : Joined n es) {q : Int} (hq : 0 ≤ q ∧ q < n) {p s : Int → Int} (h : Legal n es q p s) {c : Int} (hc : 0 ≤ c) (hpc : ∀ v : Int, 0 ≤ v → v < n → v ≠ q → p v ≤ c) :
    (∀ v : Int, 0 ≤ v → v < n → 0 ≤ s v ∧ s v ≤ 36 * c) ∧ sumN n (fun i => s (i : Int)) ≤ 216 * c := by
  have h36 := sq_le hn hc
  have hb : ∀ v : Int, 0 ≤ v → v < n → 0 ≤ s v ∧ s v ≤ 36 * c := fun v h0 h1 => by
    have := h.bound1 hes hj hq hc hpc v h0 h1
    have := h.nonneg.1 v
    omega
  refine ⟨hb, ?_⟩
  have h1 := sumN_le_const (n := n) (f := fun i => s (i : Int)) (c := 36 * c) (fun i hi => (hb i (by omega) (by omega)).2)
  have h2 : (n : Int) * (36 * c) ≤ 6 * (36 * c) := Int.mul_le_mul_of_nonneg_right (by omega) (by omega)
  omega
theorem sum_grow {n : Nat} {s : Int → Int} {v : Int} (h0 : 0 ≤ v) (h1 : v < n) (t : Int) : sumN n (fun i => (fun w => s w + one v t w) (i : Int)) = sumN n (fun i => s (i : Int)) + t := by
  rw [sumN_add n (fun i => s (i : Int)) (fun i => one v t (i : Int)), sumN_one' h0 h1]
structure Sets (n : Nat) (es : List E) (q : Int) (d u : Int → Int) : Prop where
  pos : ∀ w, 0 ≤ u w
  at_q : u q = 0
  keeps : ∀ v : Int, 0 ≤ v → v < n → v ≠ q → 0 ≤ d v - lap es u v
theorem Sets.zero {n : Nat} {es : List E} {q : Int} {d : Int → Int} (h : ∀ v : Int, 0 ≤ v → v < n → v ≠ q → 0 ≤ d v) : Sets n es q d (fun _ => 0) where
  pos := fun _ => Int.le_refl _
  at_q := rfl
  keeps := fun v h0 h1 h2 => by
    rw [lap_const (c := 0) (fun _ _ => ⟨rfl, rfl⟩)]
    have := h v h0 h1 h2
    omega
end Go.Proofs.Ytjecgolakaiddaa.Cf
end

section
namespace Go.Proofs.Ytjecgolakaiddaa.Cf
set_option linter.unusedVariables false
set_option linter.unusedSimpArgs false
open Go.Proofs.YtjecgolakaiddaaW.PrintWords
theorem rd_set {x : List Int} {i : Int} (h0 : 0 ≤ i) (h1 : i < x.length) (y : Int) {w : Int} (hw : 0 ≤ w) : rd (x.set i.toNat y) w = if w = i then y else rd x w := by
  obtain ⟨a, rfl⟩ := Int.eq_ofNat_of_zero_le h0
  obtain ⟨b, rfl⟩ := Int.eq_ofNat_of_zero_le hw
  simp only [Int.ofNat_eq_natCast, Int.toNat_natCast, rd_nat, List.getD_eq_getElem?_getD] at *
  by_cases c : b = a
  · subst c
    rw [List.getElem?_set_self (by omega), if_pos rfl]
    rfl
  · rw [List.getElem?_set_ne (fun y => c y.symm), if_neg (by omega)]
/-- A list's numbers lie between -B and B. -/
def Bd (x : List Int) (B : Int) : Prop := ∀ w : Int, 0 ≤ w → w < x.length → -B ≤ rd x w ∧ rd x w ≤ B
theorem Bd.mono {x : List Int} {B B' : Int} (h : Bd x B) (hB : B ≤ B') : Bd x B' := fun w h0 h1 => by have := h w h0 h1; omega
/-- x is d, less what the script s takes over these edges. -/
def Less (es : List E) (d : List Int) (s : Int → Int) (x : List Int) : Prop := x.length = d.length ∧ ∀ w : Int, 0 ≤ w → w < d.length → rd x w = rd d w - lap es s w
theorem lap_snoc (es : List E) (e : E) (s : Int → Int) (w : Int) : lap (es ++ [e]) s w = lap es s w + lapE s w e := by
  induction es with
  | nil => simp [lap, sumE]
  | cons a r ih => rw [List.cons_append, lap_cons, ih, lap_cons]; omega
theorem lap_take {es : List E} {i : Nat} (h : i < es.length) (s : Int → Int) (w : Int) : lap (es.take (i + 1)) s w = lap (es.take i) s w + lapE s w es[i] := by
  rw [List.take_succ_eq_append_getElem h, lap_snoc]
/-- The list c tells s on the first n numbers. -/
def Rep (n : Nat) (c : List Int) (s : Int → Int) : Prop := c.length = n ∧ ∀ w : Int, 0 ≤ w → w < n → rd c w = s w
theorem Rep.ext {n : Nat} {c c' : List Int} {s : Int → Int} (h : Rep n c s) (h' : Rep n c' s) : c = c' := by
  apply List.ext_getElem (by rw [h.1, h'.1])
  intro i h1 h2
  have e := h.2 i (by omega) (by have := h.1; omega)
  have e' := h'.2 i (by omega) (by have := h.1; omega)
  rw [rd_get h1] at e
  rw [rd_get h2] at e'
  rw [e, e']
theorem Rep.congr {n : Nat} {c : List Int} {s t : Int → Int} (h : Rep n c s) (he : ∀ w : Int, 0 ≤ w → w < n → s w = t w) : Rep n c t := ⟨h.1, fun w h0 h1 => (h.2 w h0 h1).trans (he w h0 h1)⟩
theorem Rep.self {n : Nat} {c : List Int} (h : c.length = n) : Rep n c (rd c) := ⟨h, fun _ _ _ => rfl⟩
theorem Rep.set {n : Nat} {c : List Int} {s : Int → Int} (h : Rep n c s) {v : Int} (h0 : 0 ≤ v) (h1 : v < n) (y : Int) : Rep n (c.set v.toNat y) (fun w => if w = v then y else s w) := by
  refine ⟨by rw [List.length_set]; exact h.1, fun w w0 w1 => ?_⟩
  rw [rd_set h0 (by rw [h.1]; exact h1) y w0, h.2 w w0 w1]
theorem rd_replicate (n : Nat) (v : Int) : rd (List.replicate n (0 : Int)) v = 0 := by
  unfold rd
  rw [List.getD_eq_getElem?_getD]
  by_cases h : v.toNat < n
  · rw [List.getElem?_replicate_of_lt h]; rfl
  · rw [List.getElem?_eq_none (by simp; omega)]; rfl
theorem Rep.zero (n : Nat) : Rep n (List.replicate n (0 : Int)) (fun _ => 0) := ⟨by simp, fun w _ _ => rd_replicate n w⟩
/-- The list of a function's first n values. -/
def repL (n : Nat) (f : Int → Int) : List Int := (List.range n).map fun i : Nat => f (i : Int)
theorem repL_rep (n : Nat) (f : Int → Int) : Rep n (repL n f) f := by
  refine ⟨by simp [repL], fun w h0 h1 => ?_⟩
  obtain ⟨a, rfl⟩ := Int.eq_ofNat_of_zero_le h0
  rw [rd_get (by simp [repL]; omega)]
  simp [repL]
theorem Rep.eq {n : Nat} {c : List Int} {s : Int → Int} (h : Rep n c s) : c = repL n s := h.ext (repL_rep n s)
theorem Rep.mem {n : Nat} {c : List Int} {s : Int → Int} (h : Rep n c s) {x : Int} (hx : x ∈ c) : ∃ w : Int, 0 ≤ w ∧ w < n ∧ x = s w := by
  obtain ⟨i, hi, rfl⟩ := List.getElem_of_mem hx
  have := h.1
  refine ⟨i, by omega, by omega, ?_⟩
  rw [← h.2 i (by omega) (by omega), rd_get hi]
theorem Rep.bd {n : Nat} {c : List Int} {s : Int → Int} {B : Int} (h : Rep n c s) (hb : ∀ w : Int, 0 ≤ w → w < n → -B ≤ s w ∧ s w ≤ B) : Bd c B := fun w h0 h1 => by
  rw [h.2 w h0 (by have := h.1; omega)]
  exact hb w h0 (by have := h.1; omega)
theorem Less.rep {n : Nat} {es : List E} {d x : List Int} {s : Int → Int} (hd : d.length = n) (h : Less es d s x) : Rep n x (fun w => rd d w - lap es s w) := ⟨h.1.trans hd, fun w h0 h1 => h.2 w h0 (by omega)⟩
/-- What toppling off q ends in, and how often each vertex toppled. -/
def Settled (n : Nat) (es : List E) (q : Int) (p : List Int) (r : List Int × List Int) : Prop :=
  ∃ s : Int → Int, Legal n es q (rd p) s ∧ Stable n es q (fun v => rd p v - lap es s v) ∧ Rep n r.1 (fun w => if w = q then 0 else rd p w - lap es s w) ∧ Rep n r.2 s
theorem Settled.unique {n : Nat} {es : List E} {q : Int} {p : List Int} {r r' : List Int × List Int} (h : Settled n es q p r) (h' : Settled n es q p r') : r = r' := by
  obtain ⟨s, h1, h2, h3, h4⟩ := h
  obtain ⟨t, k1, k2, k3, k4⟩ := h'
  obtain rfl := h1.unique k1 h2 k2
  exact Prod.ext (h3.ext k3) (h4.ext k4)
open Classical in
noncomputable def settleS (n : Nat) (es : List E) (q : Int) (p : List Int) : List Int × List Int := if h : ∃ r, Settled n es q p r then Classical.choose h else ([], [])
theorem Settled.eq {n : Nat} {es : List E} {q : Int} {p : List Int} {r : List Int × List Int} (h : Settled n es q p r) : r = settleS n es q p := by
  have he : ∃ r, Settled n es q p r := ⟨r, h⟩
  unfold settleS
  rw [dif_pos he]
  exact h.unique (Classical.choose_spec he)
theorem settleS_len {n : Nat} (es : List E) (q : Int) (p : List Int) (hn : n ≤ 6) : (settleS n es q p).1.length ≤ 6 ∧ (settleS n es q p).2.length ≤ 6 := by
  unfold settleS
  split
  · rename_i he
    obtain ⟨s, _, _, h3, h4⟩ := Classical.choose_spec he
    rw [h3.1, h4.1]
    exact ⟨hn, hn⟩
  · simp
end Go.Proofs.Ytjecgolakaiddaa.Cf
end

section
namespace Go.Proofs.Ytjecgolakaiddaa.Cf
set_option linter.unusedVariables false
set_option linter.unusedSimpArgs false
open Go.Proofs.YtjecgolakaiddaaW.PrintWords
theorem unst_ok (n : Int) (es : List E) (q : Int) (p : List Int) : ∀ (d i : Nat), (unst n es q p d i = -1 ∧ ∀ j : Nat, i ≤ j → j < i + d → (j : Int) ≠ q → rd p (j : Int) < valG n es j) ∨ ((i : Int) ≤ unst n es q p d i ∧ unst n es q p d i < i + d ∧ unst n es q p d i ≠ q ∧ valG n es (unst n es q p d i) ≤ rd p (unst n es q p d i))
  | 0, i => .inl ⟨rfl, fun j h0 h1 => by omega⟩
  | d + 1, i => by
    unfold unst
    have ih := unst_ok n es q p d (i + 1)
    by_cases h : (i : Int) = q
    · rw [if_pos h]
      rcases ih with ⟨h1, h2⟩ | ⟨h1, h2, h3⟩
      · refine .inl ⟨h1, fun j h3 h4 h5 => ?_⟩
        by_cases e : j = i
        · subst e; exact absurd h h5
        · exact h2 j (by omega) (by omega) h5
      · exact .inr ⟨by omega, by omega, h3⟩
    · rw [if_neg h]
      by_cases h2 : rd p i ≥ valG n es i
      · rw [if_pos h2]
        exact .inr ⟨by omega, by omega, h, h2⟩
      · rw [if_neg h2]
        rcases ih with ⟨h1, h3⟩ | ⟨h1, h3, h4⟩
        · refine .inl ⟨h1, fun j k1 k2 k3 => ?_⟩
          by_cases e : j = i
          · subst e; omega
          · exact h3 j (by omega) (by omega) k3
        · exact .inr ⟨by omega, by omega, h4⟩
theorem valG_in {n : Int} {es : List E} {v : Int} (h : 0 ≤ v ∧ v < n) : valG n es v = val es v := by
  unfold valG
  rw [if_pos h]
/-- No vertex is unstable: the configuration is stable. -/
theorem unst_neg {n : Nat} {es : List E} {q : Int} {p : List Int} (hp : p.length = n) (h : unst n es q p p.length 0 < 0) : Stable n es q (rd p) := by
  intro v h0 h1 hv
  rcases unst_ok n es q p p.length 0 with ⟨_, h2⟩ | ⟨h2, _⟩
  · have := h2 v.toNat (by omega) (by omega) (by omega)
    have e : ((v.toNat : Nat) : Int) = v := by omega
    rw [e, valG_in ⟨h0, h1⟩] at this
    exact this
  · omega
theorem unst_pos {n : Nat} {es : List E} {q : Int} {p : List Int} (hp : p.length = n) (h : ¬ unst n es q p p.length 0 < 0) : 0 ≤ unst n es q p p.length 0 ∧ unst n es q p p.length 0 < n ∧ unst n es q p p.length 0 ≠ q ∧ val es (unst n es q p p.length 0) ≤ rd p (unst n es q p p.length 0) := by
  rcases unst_ok n es q p p.length 0 with ⟨h1, _⟩ | ⟨h1, h2, h3, h4⟩
  · omega
  · refine ⟨by omega, by omega, h3, ?_⟩
    rw [valG_in ⟨by omega, by omega⟩] at h4
    exact h4
end Go.Proofs.Ytjecgolakaiddaa.Cf
end

section
namespace Go.Proofs.Ytjecgolakaiddaa.Cf
set_option linter.unusedVariables false
set_option linter.unusedSimpArgs false
open Go.RowKit Go.Proofs.YtjecgolakaiddaaW.PrintWords Go.Proofs.Ytjecgolakaiddaa.P
theorem specFire_l0 (n : Nat) (es : List E) (hes : ∀ e ∈ es, EOk n e) (hel : es.length ≤ 12) (d s : List Int) (hd : d.length = n) (hs : s.length = n) {B K : Int} (hK : 0 ≤ K ∧ 0 ≤ B) (hbd : Bd d B) (hbs : Bd s K) (hB : B + 24 * K ≤ 4611686018427387904) :
    ∀ (k i : Nat) (x : List Int), i + k = es.length → Less (es.take i) d (rd s) x → Bd x (B + 2 * K * i) → Ep (fun r => spec_l04Fire.l0 r s x es (es.length : Int) (i : Int)) (fun r => Less es d (rd s) r ∧ Bd r (B + 24 * K)) := by
  intro k
  induction k with
  | zero =>
    intro i x hi hx hb
    obtain rfl : i = es.length := by omega
    refine Ep.up ?_
    simp only [spec_l04Fire.l0]
    refine Ep.neg (by omega) (Ep.now ⟨?_, hb.mono ?_⟩)
    · rw [List.take_length] at hx
      exact hx
    · have : 2 * K * (es.length : Int) ≤ 2 * K * 12 := Int.mul_le_mul_of_nonneg_left (by omega) (by omega)
      omega
  | succ k ih =>
    intro i x hi hx hb
    have hlt : i < es.length := by omega
    have he := hes _ (List.getElem_mem hlt)
    unfold EOk at he
    have hxl : x.length = n := hx.1.trans hd
    have hi12 : 2 * K * (i : Int) ≤ 2 * K * 12 := Int.mul_le_mul_of_nonneg_left (by omega) (by omega)
    have ba := hb es[i].f0 (by omega) (by omega)
    have bb := hb es[i].f1 (by omega) (by omega)
    have sa := hbs es[i].f0 (by omega) (by omega)
    have sb := hbs es[i].f1 (by omega) (by omega)
    refine Ep.up ?_
    simp only [spec_l04Fire.l0]
    refine Ep.pos (by omega) (Ep.pos (by omega) (Ep.pos (by omega) ?_))
    rw [rdE_get hlt, wrap_succ (by omega)]
    refine Ep.pos (by omega) (Ep.pos (by omega) (Ep.pos (by omega) (Ep.pos (by omega) (Ep.pos (by omega) (Ep.bind0 rfl (Ep.pos (by omega) ?_))))))
    rw [rd_set (x := x) (by omega) (by omega) _ (w := es[i].f1) (by omega), if_neg (by omega), wrap_id (x := rd x es[i].f0 - rd s es[i].f0) (by omega) (by omega), wrap_id (x := rd x es[i].f0 - rd s es[i].f0 + rd s es[i].f1) (by omega) (by omega), wrap_id (x := rd x es[i].f1 - rd s es[i].f1) (by omega) (by omega), wrap_id (x := rd x es[i].f1 - rd s es[i].f1 + rd s es[i].f0) (by omega) (by omega)]
    have key : ∀ w : Int, 0 ≤ w → w < n → rd ((x.set es[i].f0.toNat (rd x es[i].f0 - rd s es[i].f0 + rd s es[i].f1)).set es[i].f1.toNat (rd x es[i].f1 - rd s es[i].f1 + rd s es[i].f0)) w = rd x w - lapE (rd s) w es[i] := by
      intro w h0 h1
      rw [rd_set (by omega) (by rw [List.length_set]; omega) _ h0, rd_set (by omega) (by omega) _ h0]
      unfold lapE
      by_cases c1 : w = es[i].f1
      · rw [if_pos c1, if_neg (by omega), if_pos c1.symm, c1]
        omega
      · rw [if_neg c1]
        by_cases c0 : w = es[i].f0
        · rw [if_pos c0, if_pos c0.symm, if_neg (by omega), c0]
          omega
        · rw [if_neg c0, if_neg (by omega), if_neg (by omega)]
          omega
    refine ih (i + 1) _ (by omega) ⟨by simp [hx.1], ?_⟩ ?_
    · intro w h0 h1
      rw [key w h0 (by omega), hx.2 w h0 h1, lap_take hlt]
      omega
    · intro w h0 h1
      have h1' : w < n := by simpa [hxl] using h1
      rw [key w h0 h1']
      have := hb w h0 (by omega)
      have e : 2 * K * ((i + 1 : Nat) : Int) = 2 * K * (i : Int) + 2 * K := by
        rw [Int.natCast_add, Int.mul_add]
        omega
      rw [e]
      unfold lapE
      split <;> split <;> omega
theorem specFire (n : Nat) (hn : n ≤ 6) (es : List E) (hes : ∀ e ∈ es, EOk n e) (hel : es.length ≤ 12) (d s : List Int) (hd : d.length = n) (hs : s.length = n) {B K : Int} (hK : 0 ≤ K ∧ 0 ≤ B) (hbd : Bd d B) (hbs : Bd s K) (hB : B + 24 * K ≤ 4611686018427387904) :
    Ep (fun r => spec_l04Fire.f r (n : Int) es d s) (fun r => Less es d (rd s) r ∧ Bd r (B + 24 * K)) := by
  simp only [spec_l04Fire.f]
  refine Ep.bind0 rfl (Ep.pos (by simp; omega) ?_)
  refine specFire_l0 n es hes hel d s hd hs hK hbd hbs hB es.length 0 _ (by omega) ⟨rfl, fun w _ _ => ?_⟩ ?_
  · simp [lap, sumE]
  · simpa using hbd
theorem implFire_l0 (n : Nat) (es : List E) (hes : ∀ e ∈ es, EOk n e) (hel : es.length ≤ 12) (d : List Int) (v t : Int) (hd : d.length = n) (hv : 0 ≤ v ∧ v < n) {B K : Int} (hK : 0 ≤ K ∧ 0 ≤ B) (hbd : Bd d B) (ht : -K ≤ t ∧ t ≤ K) (hB : B + 12 * K ≤ 4611686018427387904) :
    ∀ (k i : Nat) (x : List Int), i + k = es.length → Less (es.take i) d (one v t) x → Bd x (B + K * i) → Ep (fun r => impl_fire.l0 r x v t es (es.length : Int) (i : Int)) (fun r => Less es d (one v t) r ∧ Bd r (B + 12 * K)) := by
  intro k
  induction k with
  | zero =>
    intro i x hi hx hb
    obtain rfl : i = es.length := by omega
    refine Ep.up ?_
    simp only [impl_fire.l0]
    refine Ep.neg (by omega) (Ep.now ⟨?_, hb.mono ?_⟩)
    · rw [List.take_length] at hx
      exact hx
    · have : K * (es.length : Int) ≤ K * 12 := Int.mul_le_mul_of_nonneg_left (by omega) (by omega)
      omega
  | succ k ih =>
    intro i x hi hx hb
    have hlt : i < es.length := by omega
    have he := hes _ (List.getElem_mem hlt)
    unfold EOk at he
    have hxl : x.length = n := hx.1.trans hd
    have hi12 : K * (i : Int) ≤ K * 12 := Int.mul_le_mul_of_nonneg_left (by omega) (by omega)
    have ba := hb es[i].f0 (by omega) (by omega)
    have bb := hb es[i].f1 (by omega) (by omega)
    have e1 : K * ((i + 1 : Nat) : Int) = K * (i : Int) + K := by
      rw [Int.natCast_add, Int.mul_add]
      omega
    have fin : ∀ x' : List Int, x'.length = x.length → (∀ w : Int, 0 ≤ w → w < n → rd x' w = rd x w - lapE (one v t) w es[i]) → Ep (fun r => impl_fire.l0 r x' v t es (es.length : Int) ((i + 1 : Nat) : Int)) (fun r => Less es d (one v t) r ∧ Bd r (B + 12 * K)) := by
      intro x' hl' key
      refine ih (i + 1) _ (by omega) ⟨by rw [hl']; exact hx.1, ?_⟩ ?_
      · intro w h0 h1
        rw [key w h0 (by omega), hx.2 w h0 h1, lap_take hlt]
        omega
      · intro w h0 h1
        have h1' : w < n := by omega
        rw [key w h0 h1', e1]
        have := hb w h0 (by omega)
        unfold lapE one
        (repeat' split) <;> omega
    refine Ep.up ?_
    simp only [impl_fire.l0]
    refine Ep.pos (by omega) (Ep.pos (by omega) (Ep.pos (by omega) ?_))
    rw [rdE_get hlt, wrap_succ (by omega)]
    refine Ep.ite (fun c => ?_) (fun c => Ep.ite (fun c2 => ?_) (fun c2 => ?_))
    · subst c
      refine Ep.pos (by omega) (Ep.pos (by omega) (Ep.bind0 rfl (Ep.pos (by omega) (Ep.pos (by omega) ?_))))
      rw [rd_set (x := x) (by omega) (by omega) _ (w := es[i].f1) (by omega), if_neg (by omega), wrap_id (x := rd x es[i].f0 - t) (by omega) (by omega), wrap_id (x := rd x es[i].f1 + t) (by omega) (by omega)]
      refine fin _ (by simp) ?_
      intro w h0 h1
      rw [rd_set (by omega) (by rw [List.length_set]; omega) _ h0, rd_set (by omega) (by omega) _ h0]
      unfold lapE one
      by_cases c1 : w = es[i].f1
      · subst c1; (repeat' split) <;> omega
      · by_cases c0 : w = es[i].f0
        · subst c0; (repeat' split) <;> omega
        · (repeat' split) <;> omega
    · subst c2
      refine Ep.pos (by omega) (Ep.pos (by omega) (Ep.bind0 rfl (Ep.pos (by omega) (Ep.pos (by omega) ?_))))
      rw [rd_set (x := x) (by omega) (by omega) _ (w := es[i].f0) (by omega), if_neg (by omega), wrap_id (x := rd x es[i].f1 - t) (by omega) (by omega), wrap_id (x := rd x es[i].f0 + t) (by omega) (by omega)]
      refine fin _ (by simp) ?_
      intro w h0 h1
      rw [rd_set (by omega) (by rw [List.length_set]; omega) _ h0, rd_set (by omega) (by omega) _ h0]
      unfold lapE one
      by_cases c1 : w = es[i].f1
      · subst c1; (repeat' split) <;> omega
      · by_cases c0 : w = es[i].f0
        · subst c0; (repeat' split) <;> omega
        · (repeat' split) <;> omega
    · refine fin x rfl ?_
      intro w h0 h1
      unfold lapE one
      (repeat' split) <;> omega
theorem implFire (n : Nat) (es : List E) (hes : ∀ e ∈ es, EOk n e) (hel : es.length ≤ 12) (d : List Int) (v t : Int) (hd : d.length = n) (hv : 0 ≤ v ∧ v < n) {B K : Int} (hK : 0 ≤ K ∧ 0 ≤ B) (hbd : Bd d B) (ht : -K ≤ t ∧ t ≤ K) (hB : B + 12 * K ≤ 4611686018427387904) :
    Ep (fun r => impl_fire.f r (n : Int) es d v t) (fun r => Less es d (one v t) r ∧ Bd r (B + 12 * K)) := by
  simp only [impl_fire.f]
  refine implFire_l0 n es hes hel d v t hd hv hK hbd ht hB es.length 0 _ (by omega) ⟨rfl, fun w _ _ => ?_⟩ ?_
  · simp [lap, sumE]
  · simpa using hbd
end Go.Proofs.Ytjecgolakaiddaa.Cf
end

section
namespace Go.Proofs.Ytjecgolakaiddaa.P
open Go.RowKit Go.Proofs.YtjecgolakaiddaaW.PrintWords Go.Proofs.YtjecgolakaiddaaW.PrintLast Go.Proofs.YtjecgolakaiddaaW.PrintMore
attribute [local go_sem] max2_int min2_int max_two min_two max_three min_three max_four min_four
set_option linter.unusedVariables false
set_option linter.unusedSimpArgs false
mutual
def spec_RotorsOk.j0 : Nat → List Int → Int → Bool → Int → List (S70) → Option (Bool)
  | 0, _, _, _, _, _ => none
  | k + 1, x1, x2, x33, x102000, x102001 => if x33 = true then (some false) else (spec_RotorsOk.l0 k x2 x1 (x1.length : Int) 0 x102000 x102001)
def spec_RotorsOk.l0 : Nat → Int → List Int → Int → Int → Int → List (S70) → Option (Bool)
  | 0, _, _, _, _, _, _ => none
  | k + 1, x2, x34, x35, x36, x102000, x102001 => if x36 < x35 then (if 0 ≤ x36 then (if x36 < (x34.length : Int) then (if x36 = x2 then (spec_RotorsOk.l0 k x2 x34 x35 (wrap64 (x36 + 1)) x102000 x102001) else ((spec_l01In.f (rd x34 x36) 0 (wrap64 ((x102001.length : Int) - 1))).bind fun t106 => (if t106 = true then (if 0 ≤ (rd x34 x36) then (if (rd x34 x36) < (x102001.length : Int) then (if ((rd_T70 x102001 (rd x34 x36)).f0) = x36 then (spec_RotorsOk.l0 k x2 x34 x35 (wrap64 (x36 + 1)) x102000 x102001) else (if ((rd_T70 x102001 (rd x34 x36)).f1) = x36 then (spec_RotorsOk.l0 k x2 x34 x35 (wrap64 (x36 + 1)) x102000 x102001) else (some false))) else (none)) else (none)) else (some false)))) else (none)) else (none)) else (some true)
end
def spec_RotorsOk.f (k : Nat) (a0_0 : Int) (l0_1 : List (S70)) (l1 : List Int) (a2 : Int) : Option (Bool) := (spec_GraphOk.f k a0_0 l0_1).bind fun t102 => (if t102 = true then ((spec_l01In.f a2 0 (wrap64 (a0_0 - 1))).bind fun t103 => (if t103 = true then (if (l1.length : Int) = a0_0 then (if 0 ≤ a2 then (if a2 < (l1.length : Int) then (spec_RotorsOk.j0 k l1 a2 ((rd l1 a2) != (-1)) a0_0 l0_1) else (none)) else (none)) else (spec_RotorsOk.j0 k l1 a2 true a0_0 l0_1)) else (spec_RotorsOk.j0 k l1 a2 true a0_0 l0_1))) else (spec_RotorsOk.j0 k l1 a2 true a0_0 l0_1))
theorem spec_RotorsOk.mono_l : ∀ k, (∀ y0 y1 y2 y3 y4, LeO (spec_RotorsOk.j0 k y0 y1 y2 y3 y4) (spec_RotorsOk.j0 (k + 1) y0 y1 y2 y3 y4)) ∧ (∀ y0 y1 y2 y3 y4 y5, LeO (spec_RotorsOk.l0 k y0 y1 y2 y3 y4 y5) (spec_RotorsOk.l0 (k + 1) y0 y1 y2 y3 y4 y5))
  | 0 => ⟨fun _ _ _ _ _ r h => by simp [spec_RotorsOk.j0] at h, fun _ _ _ _ _ _ r h => by simp [spec_RotorsOk.l0] at h⟩
  | k + 1 => by
    obtain ⟨ih0, ih1⟩ := spec_RotorsOk.mono_l k
    refine ⟨?_, ?_⟩
    · intro y0 y1 y2 y3 y4
      unfold spec_RotorsOk.j0
      exact zm4
    · intro y0 y1 y2 y3 y4 y5
      unfold spec_RotorsOk.l0
      exact zm4
theorem spec_RotorsOk.mono : ∀ a0 a1 a2 a3 k, LeO (spec_RotorsOk.f k a0 a1 a2 a3) (spec_RotorsOk.f (k + 1) a0 a1 a2 a3) := by
  intro a0 a1 a2 a3 k; obtain ⟨ih0, ih1⟩ := spec_RotorsOk.mono_l k; unfold spec_RotorsOk.f; exact zm4
end Go.Proofs.Ytjecgolakaiddaa.P
end

section
namespace Go.Proofs.Ytjecgolakaiddaa.P
open Go.RowKit Go.Proofs.YtjecgolakaiddaaW.PrintWords Go.Proofs.YtjecgolakaiddaaW.PrintLast Go.Proofs.YtjecgolakaiddaaW.PrintMore
attribute [local go_sem] max2_int min2_int max_two min_two max_three min_three max_four min_four
set_option linter.unusedVariables false
set_option linter.unusedSimpArgs false
mutual
def impl_RotorsOk.j0 : Nat → List Int → Int → Bool → Int → List (S70) → Option (Bool)
  | 0, _, _, _, _, _ => none
  | k + 1, x1, x2, x26, x102000, x102001 => if x26 = true then (some false) else (impl_RotorsOk.l0 k x2 x1 (x1.length : Int) 0 x102000 x102001)
def impl_RotorsOk.l0 : Nat → Int → List Int → Int → Int → Int → List (S70) → Option (Bool)
  | 0, _, _, _, _, _, _ => none
  | k + 1, x2, x27, x28, x29, x102000, x102001 => if x29 < x28 then (if 0 ≤ x29 then (if x29 < (x27.length : Int) then (if x29 = x2 then (impl_RotorsOk.l0 k x2 x27 x28 (wrap64 (x29 + 1)) x102000 x102001) else ((impl_isAt.f x102000 x102001 (rd x27 x29) x29).bind fun t105 => (if t105 = true then (impl_RotorsOk.l0 k x2 x27 x28 (wrap64 (x29 + 1)) x102000 x102001) else (some false)))) else (none)) else (none)) else (some true)
end
def impl_RotorsOk.f (k : Nat) (a0_0 : Int) (l0_1 : List (S70)) (l1 : List Int) (a2 : Int) : Option (Bool) := (impl_isVertex.f a0_0 l0_1 a2).bind fun t102 => (if t102 = true then (if (l1.length : Int) = a0_0 then (if 0 ≤ a2 then (if a2 < (l1.length : Int) then (impl_RotorsOk.j0 k l1 a2 ((rd l1 a2) != (-1)) a0_0 l0_1) else (none)) else (none)) else (impl_RotorsOk.j0 k l1 a2 true a0_0 l0_1)) else (impl_RotorsOk.j0 k l1 a2 true a0_0 l0_1))
theorem impl_RotorsOk.mono_l : ∀ k, (∀ y0 y1 y2 y3 y4, LeO (impl_RotorsOk.j0 k y0 y1 y2 y3 y4) (impl_RotorsOk.j0 (k + 1) y0 y1 y2 y3 y4)) ∧ (∀ y0 y1 y2 y3 y4 y5, LeO (impl_RotorsOk.l0 k y0 y1 y2 y3 y4 y5) (impl_RotorsOk.l0 (k + 1) y0 y1 y2 y3 y4 y5))
  | 0 => ⟨fun _ _ _ _ _ r h => by simp [impl_RotorsOk.j0] at h, fun _ _ _ _ _ _ r h => by simp [impl_RotorsOk.l0] at h⟩
  | k + 1 => by
    obtain ⟨ih0, ih1⟩ := impl_RotorsOk.mono_l k
    refine ⟨?_, ?_⟩
    · intro y0 y1 y2 y3 y4
      unfold impl_RotorsOk.j0
      exact zm1
    · intro y0 y1 y2 y3 y4 y5
      unfold impl_RotorsOk.l0
      exact zm1
theorem impl_RotorsOk.mono : ∀ a0 a1 a2 a3 k, LeO (impl_RotorsOk.f k a0 a1 a2 a3) (impl_RotorsOk.f (k + 1) a0 a1 a2 a3) := by
  intro a0 a1 a2 a3 k; obtain ⟨ih0, ih1⟩ := impl_RotorsOk.mono_l k; unfold impl_RotorsOk.f; exact zm1
end Go.Proofs.Ytjecgolakaiddaa.P
end

section
namespace Go.Proofs.Ytjecgolakaiddaa.P
open Go.RowKit Go.Proofs.YtjecgolakaiddaaW.PrintWords Go.Proofs.YtjecgolakaiddaaW.PrintLast Go.Proofs.YtjecgolakaiddaaW.PrintMore
attribute [local go_sem] max2_int min2_int max_two min_two max_three min_three max_four min_four
set_option linter.unusedVariables false
set_option linter.unusedSimpArgs false
def spec_l15Next.l0 : Nat → Int → Int → Int → Int → Int → List (S70) → Option (Int)
  | 0, _, _, _, _, _, _ => none
  | k + 1, x1, x2, x7, x8, x102000, x102001 => if x8 < x7 then (if x7 = 0 then (none) else (if 0 ≤ (Int.tmod (wrap64 (x2 + x8)) x7) then (if (Int.tmod (wrap64 (x2 + x8)) x7) < (x102001.length : Int) then (if ((rd_T70 x102001 (Int.tmod (wrap64 (x2 + x8)) x7)).f0) = x1 then (some (Int.tmod (wrap64 (x2 + x8)) x7)) else (if ((rd_T70 x102001 (Int.tmod (wrap64 (x2 + x8)) x7)).f1) = x1 then (some (Int.tmod (wrap64 (x2 + x8)) x7)) else (spec_l15Next.l0 k x1 x2 x7 (wrap64 (x8 + 1)) x102000 x102001))) else (none)) else (none))) else (some x2)
def spec_l15Next.f (k : Nat) (a0_0 : Int) (l0_1 : List (S70)) (a1 : Int) (a2 : Int) : Option (Int) := spec_l15Next.l0 k a1 a2 (l0_1.length : Int) 1 a0_0 l0_1
theorem spec_l15Next.mono_l : ∀ k, (∀ y0 y1 y2 y3 y4 y5, LeO (spec_l15Next.l0 k y0 y1 y2 y3 y4 y5) (spec_l15Next.l0 (k + 1) y0 y1 y2 y3 y4 y5))
  | 0 => fun _ _ _ _ _ _ r h => by simp [spec_l15Next.l0] at h
  | k + 1 => by
    have ih0 := spec_l15Next.mono_l k
    · intro y0 y1 y2 y3 y4 y5
      unfold spec_l15Next.l0
      exact zm0
theorem spec_l15Next.mono : ∀ a0 a1 a2 a3 k, LeO (spec_l15Next.f k a0 a1 a2 a3) (spec_l15Next.f (k + 1) a0 a1 a2 a3) := by
  intro a0 a1 a2 a3 k; have ih0 := spec_l15Next.mono_l k; unfold spec_l15Next.f; exact zm0
mutual
def impl_NextRotor.j0 : Nat → Int → Int → Bool → Int → List (S70) → Option (Int)
  | 0, _, _, _, _, _ => none
  | k + 1, x1, x2, x19, x102000, x102001 => if x19 = true then (some (-1)) else (if (x102001.length : Int) = 0 then (none) else (impl_NextRotor.l0 k x1 (x102001.length : Int) (Int.tmod (wrap64 (x2 + 1)) (x102001.length : Int)) x102000 x102001))
def impl_NextRotor.l0 : Nat → Int → Int → Int → Int → List (S70) → Option (Int)
  | 0, _, _, _, _, _ => none
  | k + 1, x1, x7, x8, x102000, x102001 => (impl_isAt.f x102000 x102001 x8 x1).bind fun t104 => (if t104 = true then (some x8) else (if x7 = 0 then (none) else (impl_NextRotor.l0 k x1 x7 (Int.tmod (wrap64 (x8 + 1)) x7) x102000 x102001)))
end
def impl_NextRotor.f (k : Nat) (a0_0 : Int) (l0_1 : List (S70)) (a1 : Int) (a2 : Int) : Option (Int) := (impl_isVertex.f a0_0 l0_1 a1).bind fun t102 => (if t102 = true then ((impl_isAt.f a0_0 l0_1 a2 a1).bind fun t103 => (impl_NextRotor.j0 k a1 a2 (!t103) a0_0 l0_1)) else (impl_NextRotor.j0 k a1 a2 true a0_0 l0_1))
theorem impl_NextRotor.mono_l : ∀ k, (∀ y0 y1 y2 y3 y4, LeO (impl_NextRotor.j0 k y0 y1 y2 y3 y4) (impl_NextRotor.j0 (k + 1) y0 y1 y2 y3 y4)) ∧ (∀ y0 y1 y2 y3 y4, LeO (impl_NextRotor.l0 k y0 y1 y2 y3 y4) (impl_NextRotor.l0 (k + 1) y0 y1 y2 y3 y4))
  | 0 => ⟨fun _ _ _ _ _ r h => by simp [impl_NextRotor.j0] at h, fun _ _ _ _ _ r h => by simp [impl_NextRotor.l0] at h⟩
  | k + 1 => by
    obtain ⟨ih0, ih1⟩ := impl_NextRotor.mono_l k
    refine ⟨?_, ?_⟩
    · intro y0 y1 y2 y3 y4
      unfold impl_NextRotor.j0
      exact zm1
    · intro y0 y1 y2 y3 y4
      unfold impl_NextRotor.l0
      exact zm1
theorem impl_NextRotor.mono : ∀ a0 a1 a2 a3 k, LeO (impl_NextRotor.f k a0 a1 a2 a3) (impl_NextRotor.f (k + 1) a0 a1 a2 a3) := by
  intro a0 a1 a2 a3 k; obtain ⟨ih0, ih1⟩ := impl_NextRotor.mono_l k; unfold impl_NextRotor.f; exact zm1
end Go.Proofs.Ytjecgolakaiddaa.P
end

section
namespace Go.Proofs.Ytjecgolakaiddaa.P
open Go.RowKit Go.Proofs.YtjecgolakaiddaaW.PrintWords Go.Proofs.YtjecgolakaiddaaW.PrintLast Go.Proofs.YtjecgolakaiddaaW.PrintMore
attribute [local go_sem] max2_int min2_int max_two min_two max_three min_three max_four min_four
set_option linter.unusedVariables false
set_option linter.unusedSimpArgs false
def spec_l15Other.f (a0_0 : Int) (a0_1 : Int) (a1 : Int) : Option (Int) := some (wrap64 ((wrap64 (a0_0 + a0_1)) - a1))
def spec_StepWalker.j0 : Nat → List Int → Int → Bool → Int → List (S70) → Option (List Int × Int × Bool)
  | 0, _, _, _, _, _ => none
  | k + 1, x1, x3, x29, x102000, x102001 => if x29 = true then (some (([] : List Int), 0, false)) else ((some (([] : List Int) : List Int)).bind fun y104 => (if y104.length + x1.length < 17592186044416 then ((some (y104 ++ x1 : List Int)).bind fun y107 => (if 0 ≤ x3 then (if x3 < (x1.length : Int) then ((spec_l15Next.f k x102000 x102001 x3 (rd x1 x3)).bind fun t111 => (if x3 < (y107.length : Int) then ((some (y107.set (x3 : Int).toNat t111 : List Int)).bind fun y112 => (if 0 ≤ (rd y112 x3) then (if (rd y112 x3) < (x102001.length : Int) then ((spec_l15Other.f ((rd_T70 x102001 (rd y112 x3)).f0) ((rd_T70 x102001 (rd y112 x3)).f1) x3).bind fun t115 => (some (y112, t115, true))) else (none)) else (none))) else (none))) else (none)) else (none))) else (none)))
def spec_StepWalker.f (k : Nat) (a0_0 : Int) (l0_1 : List (S70)) (l1 : List Int) (a2 : Int) (a3 : Int) : Option (List Int × Int × Bool) := (spec_RotorsOk.f k a0_0 l0_1 l1 a2).bind fun t102 => (if t102 = true then (if a3 = a2 then (spec_StepWalker.j0 k l1 a3 true a0_0 l0_1) else ((spec_l01In.f a3 0 (wrap64 (a0_0 - 1))).bind fun t103 => (spec_StepWalker.j0 k l1 a3 (!t103) a0_0 l0_1))) else (spec_StepWalker.j0 k l1 a3 true a0_0 l0_1))
theorem spec_StepWalker.mono_l : ∀ k, (∀ y0 y1 y2 y3 y4, LeO (spec_StepWalker.j0 k y0 y1 y2 y3 y4) (spec_StepWalker.j0 (k + 1) y0 y1 y2 y3 y4))
  | 0 => fun _ _ _ _ _ r h => by simp [spec_StepWalker.j0] at h
  | k + 1 => by
    have ih0 := spec_StepWalker.mono_l k
    · intro y0 y1 y2 y3 y4
      unfold spec_StepWalker.j0
      exact zm23
theorem spec_StepWalker.mono : ∀ a0 a1 a2 a3 a4 k, LeO (spec_StepWalker.f k a0 a1 a2 a3 a4) (spec_StepWalker.f (k + 1) a0 a1 a2 a3 a4) := by
  intro a0 a1 a2 a3 a4 k; have ih0 := spec_StepWalker.mono_l k; unfold spec_StepWalker.f; exact zm23
def impl_across.f (a0_0 : Int) (l0_1 : List (S70)) (a1 : Int) (a2 : Int) : Option (Int) := if 0 ≤ a1 then (if a1 < (l0_1.length : Int) then (some (wrap64 ((wrap64 (((rd_T70 l0_1 a1).f0) + ((rd_T70 l0_1 a1).f1))) - a2))) else (none)) else (none)
def impl_StepWalker.j0 : Nat → List Int → Int → Bool → Int → List (S70) → Option (List Int × Int × Bool)
  | 0, _, _, _, _, _ => none
  | k + 1, x1, x3, x29, x102000, x102001 => if x29 = true then (some (([] : List Int), 0, false)) else ((impl_copyInts.f x1).bind fun t104 => (if 0 ≤ x3 then (if x3 < (x1.length : Int) then ((impl_NextRotor.f k x102000 x102001 x3 (rd x1 x3)).bind fun t108 => (if x3 < (t104.length : Int) then ((some (t104.set (x3 : Int).toNat t108 : List Int)).bind fun y109 => ((impl_across.f x102000 x102001 (rd y109 x3) x3).bind fun t111 => (some (y109, t111, true)))) else (none))) else (none)) else (none)))
def impl_StepWalker.f (k : Nat) (a0_0 : Int) (l0_1 : List (S70)) (l1 : List Int) (a2 : Int) (a3 : Int) : Option (List Int × Int × Bool) := (impl_RotorsOk.f k a0_0 l0_1 l1 a2).bind fun t102 => (if t102 = true then (if a3 = a2 then (impl_StepWalker.j0 k l1 a3 true a0_0 l0_1) else ((impl_within.f a3 0 (wrap64 (a0_0 - 1))).bind fun t103 => (impl_StepWalker.j0 k l1 a3 (!t103) a0_0 l0_1))) else (impl_StepWalker.j0 k l1 a3 true a0_0 l0_1))
theorem impl_StepWalker.mono_l : ∀ k, (∀ y0 y1 y2 y3 y4, LeO (impl_StepWalker.j0 k y0 y1 y2 y3 y4) (impl_StepWalker.j0 (k + 1) y0 y1 y2 y3 y4))
  | 0 => fun _ _ _ _ _ r h => by simp [impl_StepWalker.j0] at h
  | k + 1 => by
    have ih0 := impl_StepWalker.mono_l k
    · intro y0 y1 y2 y3 y4
      unfold impl_StepWalker.j0
      exact zm21
theorem impl_StepWalker.mono : ∀ a0 a1 a2 a3 a4 k, LeO (impl_StepWalker.f k a0 a1 a2 a3 a4) (impl_StepWalker.f (k + 1) a0 a1 a2 a3 a4) := by
  intro a0 a1 a2 a3 a4 k; have ih0 := impl_StepWalker.mono_l k; unfold impl_StepWalker.f; exact zm21
def spec_l15Walk.l0 : Nat → Int → Int → List Int → Int → Int → List (S70) → Option (List Int × Int × Bool)
  | 0, _, _, _, _, _, _ => none
  | k + 1, x2, x3, x11, x12, x102000, x102001 => if x12 ≤ 2000 then (if x3 = x2 then (some (x11, x12, true)) else (if 0 ≤ x3 then (if x3 < (x11.length : Int) then ((spec_l15Next.f k x102000 x102001 x3 (rd x11 x3)).bind fun t109 => ((some (x11.set (x3 : Int).toNat t109 : List Int)).bind fun y110 => (if 0 ≤ (rd y110 x3) then (if (rd y110 x3) < (x102001.length : Int) then ((spec_l15Other.f ((rd_T70 x102001 (rd y110 x3)).f0) ((rd_T70 x102001 (rd y110 x3)).f1) x3).bind fun t113 => (spec_l15Walk.l0 k x2 t113 y110 (wrap64 (x12 + 1)) x102000 x102001)) else (none)) else (none)))) else (none)) else (none))) else (some (([] : List Int), 0, false))
def spec_l15Walk.f (k : Nat) (a0_0 : Int) (l0_1 : List (S70)) (l1 : List Int) (a2 : Int) (a3 : Int) : Option (List Int × Int × Bool) := (some (([] : List Int) : List Int)).bind fun y102 => (if y102.length + l1.length < 17592186044416 then (spec_l15Walk.l0 k a2 a3 (y102 ++ l1) 0 a0_0 l0_1) else (none))
theorem spec_l15Walk.mono_l : ∀ k, (∀ y0 y1 y2 y3 y4 y5, LeO (spec_l15Walk.l0 k y0 y1 y2 y3 y4 y5) (spec_l15Walk.l0 (k + 1) y0 y1 y2 y3 y4 y5))
  | 0 => fun _ _ _ _ _ _ r h => by simp [spec_l15Walk.l0] at h
  | k + 1 => by
    have ih0 := spec_l15Walk.mono_l k
    · intro y0 y1 y2 y3 y4 y5
      unfold spec_l15Walk.l0
      exact zm26
theorem spec_l15Walk.mono : ∀ a0 a1 a2 a3 a4 k, LeO (spec_l15Walk.f k a0 a1 a2 a3 a4) (spec_l15Walk.f (k + 1) a0 a1 a2 a3 a4) := by
  intro a0 a1 a2 a3 a4 k; have ih0 := spec_l15Walk.mono_l k; unfold spec_l15Walk.f; exact zm26
def spec_WalkToSink.f (k : Nat) (a0_0 : Int) (l0_1 : List (S70)) (l1 : List Int) (a2 : Int) (a3 : Int) : Option (List Int × Int × Bool) := (spec_RotorsOk.f k a0_0 l0_1 l1 a2).bind fun t102 => (if t102 = true then ((spec_l01In.f a3 0 (wrap64 (a0_0 - 1))).bind fun t103 => (if t103 = true then ((spec_l15Walk.f k a0_0 l0_1 l1 a2 a3).bind fun bt104 => (some (bt104.1, bt104.2.1, bt104.2.2))) else (some (([] : List Int), 0, false)))) else (some (([] : List Int), 0, false)))
theorem spec_WalkToSink.mono : ∀ a0 a1 a2 a3 a4 k, LeO (spec_WalkToSink.f k a0 a1 a2 a3 a4) (spec_WalkToSink.f (k + 1) a0 a1 a2 a3 a4) := by
  intro a0 a1 a2 a3 a4 k; unfold spec_WalkToSink.f; repeat' first | (with_reducible apply spec_RotorsOk.mono) | (with_reducible apply spec_l15Walk.mono) | (with_reducible exact LeO.refl _) | (with_reducible exact LeO.none _) | (with_reducible refine LeO.ite ?_ ?_) | (with_reducible refine LeO.bind ?_ (fun _ => ?_)) | apply spec_RotorsOk.mono | apply spec_l15Walk.mono | exact LeO.none _ | refine LeO.ite ?_ ?_ | refine LeO.bind ?_ (fun _ => ?_)
mutual
def impl_WalkToSink.j0 : Nat → List Int → Int → Int → Bool → Int → List (S70) → Option (List Int × Int × Bool)
  | 0, _, _, _, _, _, _ => none
  | k + 1, x1, x2, x3, x25, x102000, x102001 => if x25 = true then (some (([] : List Int), 0, false)) else ((impl_copyInts.f x1).bind fun t104 => (impl_WalkToSink.l0 k x2 x3 t104 0 x102000 x102001))
def impl_WalkToSink.l0 : Nat → Int → Int → List Int → Int → Int → List (S70) → Option (List Int × Int × Bool)
  | 0, _, _, _, _, _, _ => none
  | k + 1, x2, x3, x11, x12, x102000, x102001 => if x3 = x2 then (some (x11, x12, true)) else (if x12 = 2000 then (some (([] : List Int), 0, false)) else (if 0 ≤ x3 then (if x3 < (x11.length : Int) then ((impl_NextRotor.f k x102000 x102001 x3 (rd x11 x3)).bind fun t108 => ((some (x11.set (x3 : Int).toNat t108 : List Int)).bind fun y109 => ((impl_across.f x102000 x102001 (rd y109 x3) x3).bind fun t111 => (impl_WalkToSink.l0 k x2 t111 y109 (wrap64 (x12 + 1)) x102000 x102001)))) else (none)) else (none)))
end
def impl_WalkToSink.f (k : Nat) (a0_0 : Int) (l0_1 : List (S70)) (l1 : List Int) (a2 : Int) (a3 : Int) : Option (List Int × Int × Bool) := (impl_RotorsOk.f k a0_0 l0_1 l1 a2).bind fun t102 => (if t102 = true then ((impl_within.f a3 0 (wrap64 (a0_0 - 1))).bind fun t103 => (impl_WalkToSink.j0 k l1 a2 a3 (!t103) a0_0 l0_1)) else (impl_WalkToSink.j0 k l1 a2 a3 true a0_0 l0_1))
theorem impl_WalkToSink.mono_l : ∀ k, (∀ y0 y1 y2 y3 y4 y5, LeO (impl_WalkToSink.j0 k y0 y1 y2 y3 y4 y5) (impl_WalkToSink.j0 (k + 1) y0 y1 y2 y3 y4 y5)) ∧ (∀ y0 y1 y2 y3 y4 y5, LeO (impl_WalkToSink.l0 k y0 y1 y2 y3 y4 y5) (impl_WalkToSink.l0 (k + 1) y0 y1 y2 y3 y4 y5))
  | 0 => ⟨fun _ _ _ _ _ _ r h => by simp [impl_WalkToSink.j0] at h, fun _ _ _ _ _ _ r h => by simp [impl_WalkToSink.l0] at h⟩
  | k + 1 => by
    obtain ⟨ih0, ih1⟩ := impl_WalkToSink.mono_l k
    refine ⟨?_, ?_⟩
    · intro y0 y1 y2 y3 y4 y5
      unfold impl_WalkToSink.j0
      exact zm8
    · intro y0 y1 y2 y3 y4 y5
      unfold impl_WalkToSink.l0
      exact zm8
theorem impl_WalkToSink.mono : ∀ a0 a1 a2 a3 a4 k, LeO (impl_WalkToSink.f k a0 a1 a2 a3 a4) (impl_WalkToSink.f (k + 1) a0 a1 a2 a3 a4) := by
  intro a0 a1 a2 a3 a4 k; obtain ⟨ih0, ih1⟩ := impl_WalkToSink.mono_l k; unfold impl_WalkToSink.f; exact zm8
end Go.Proofs.Ytjecgolakaiddaa.P
end

section
namespace Go.Proofs.Ytjecgolakaiddaa.P
open Go.RowKit Go.Proofs.YtjecgolakaiddaaW.PrintWords Go.Proofs.YtjecgolakaiddaaW.PrintLast Go.Proofs.YtjecgolakaiddaaW.PrintMore
attribute [local go_sem] max2_int min2_int max_two min_two max_three min_three max_four min_four
set_option linter.unusedVariables false
set_option linter.unusedSimpArgs false
mutual
def spec_IsTreeState.l0 : Nat → List Int → Int → Int → Int → List (S70) → Option (Bool)
  | 0, _, _, _, _, _ => none
  | k + 1, x1, x2, x7, x102000, x102001 => if x7 < x102000 then (spec_IsTreeState.l1 k x1 x2 x7 x7 0 x102000 x102001) else (some true)
def spec_IsTreeState.l1 : Nat → List Int → Int → Int → Int → Int → Int → List (S70) → Option (Bool)
  | 0, _, _, _, _, _, _, _ => none
  | k + 1, x1, x2, x7, x8, x9, x102000, x102001 => if x9 < x102000 then (if x8 = x2 then (spec_IsTreeState.l0 k x1 x2 (wrap64 (x7 + 1)) x102000 x102001) else (if 0 ≤ x8 then (if x8 < (x1.length : Int) then (if 0 ≤ (rd x1 x8) then (if (rd x1 x8) < (x102001.length : Int) then ((spec_l15Other.f ((rd_T70 x102001 (rd x1 x8)).f0) ((rd_T70 x102001 (rd x1 x8)).f1) x8).bind fun t105 => (spec_IsTreeState.l1 k x1 x2 x7 t105 (wrap64 (x9 + 1)) x102000 x102001)) else (none)) else (none)) else (none)) else (none))) else (if x8 = x2 then (spec_IsTreeState.l0 k x1 x2 (wrap64 (x7 + 1)) x102000 x102001) else (some false))
end
def spec_IsTreeState.f (k : Nat) (a0_0 : Int) (l0_1 : List (S70)) (l1 : List Int) (a2 : Int) : Option (Bool) := (spec_RotorsOk.f k a0_0 l0_1 l1 a2).bind fun t102 => (if t102 = true then (spec_IsTreeState.l0 k l1 a2 0 a0_0 l0_1) else (some false))
theorem spec_IsTreeState.mono_l : ∀ k, (∀ y0 y1 y2 y3 y4, LeO (spec_IsTreeState.l0 k y0 y1 y2 y3 y4) (spec_IsTreeState.l0 (k + 1) y0 y1 y2 y3 y4)) ∧ (∀ y0 y1 y2 y3 y4 y5 y6, LeO (spec_IsTreeState.l1 k y0 y1 y2 y3 y4 y5 y6) (spec_IsTreeState.l1 (k + 1) y0 y1 y2 y3 y4 y5 y6))
  | 0 => ⟨fun _ _ _ _ _ r h => by simp [spec_IsTreeState.l0] at h, fun _ _ _ _ _ _ _ r h => by simp [spec_IsTreeState.l1] at h⟩
  | k + 1 => by
    obtain ⟨ih0, ih1⟩ := spec_IsTreeState.mono_l k
    refine ⟨?_, ?_⟩
    · intro y0 y1 y2 y3 y4
      unfold spec_IsTreeState.l0
      exact zm10
    · intro y0 y1 y2 y3 y4 y5 y6
      unfold spec_IsTreeState.l1
      exact zm10
theorem spec_IsTreeState.mono : ∀ a0 a1 a2 a3 k, LeO (spec_IsTreeState.f k a0 a1 a2 a3) (spec_IsTreeState.f (k + 1) a0 a1 a2 a3) := by
  intro a0 a1 a2 a3 k; obtain ⟨ih0, ih1⟩ := spec_IsTreeState.mono_l k; unfold spec_IsTreeState.f; exact zm10
end Go.Proofs.Ytjecgolakaiddaa.P
end

section
namespace Go.Proofs.Ytjecgolakaiddaa.P
open Go.RowKit Go.Proofs.YtjecgolakaiddaaW.PrintWords Go.Proofs.YtjecgolakaiddaaW.PrintLast Go.Proofs.YtjecgolakaiddaaW.PrintMore
attribute [local go_sem] max2_int min2_int max_two min_two max_three min_three max_four min_four
set_option linter.unusedVariables false
set_option linter.unusedSimpArgs false
mutual
def impl_IsTreeState.l0 : Nat → List Int → Int → Int → Int → Int → List (S70) → Option (Bool)
  | 0, _, _, _, _, _, _ => none
  | k + 1, x1, x2, x16, x17, x102000, x102001 => if x17 < x16 then (impl_IsTreeState.l1 k x1 x2 x17 0 x16 x17 x102000 x102001) else (some true)
def impl_IsTreeState.l1 : Nat → List Int → Int → Int → Int → Int → Int → Int → List (S70) → Option (Bool)
  | 0, _, _, _, _, _, _, _, _ => none
  | k + 1, x1, x2, x8, x9, x16, x17, x102000, x102001 => if x9 < x102000 then (if x8 = x2 then (impl_IsTreeState.l0 k x1 x2 x16 (wrap64 (x17 + 1)) x102000 x102001) else (if 0 ≤ x8 then (if x8 < (x1.length : Int) then ((impl_across.f x102000 x102001 (rd x1 x8) x8).bind fun t104 => (impl_IsTreeState.l1 k x1 x2 t104 (wrap64 (x9 + 1)) x16 x17 x102000 x102001)) else (none)) else (none))) else (if x8 = x2 then (impl_IsTreeState.l0 k x1 x2 x16 (wrap64 (x17 + 1)) x102000 x102001) else (some false))
end
def impl_IsTreeState.f (k : Nat) (a0_0 : Int) (l0_1 : List (S70)) (l1 : List Int) (a2 : Int) : Option (Bool) := (impl_RotorsOk.f k a0_0 l0_1 l1 a2).bind fun t102 => (if t102 = true then (impl_IsTreeState.l0 k l1 a2 (l1.length : Int) 0 a0_0 l0_1) else (some false))
theorem impl_IsTreeState.mono_l : ∀ k, (∀ y0 y1 y2 y3 y4 y5, LeO (impl_IsTreeState.l0 k y0 y1 y2 y3 y4 y5) (impl_IsTreeState.l0 (k + 1) y0 y1 y2 y3 y4 y5)) ∧ (∀ y0 y1 y2 y3 y4 y5 y6 y7, LeO (impl_IsTreeState.l1 k y0 y1 y2 y3 y4 y5 y6 y7) (impl_IsTreeState.l1 (k + 1) y0 y1 y2 y3 y4 y5 y6 y7))
  | 0 => ⟨fun _ _ _ _ _ _ r h => by simp [impl_IsTreeState.l0] at h, fun _ _ _ _ _ _ _ _ r h => by simp [impl_IsTreeState.l1] at h⟩
  | k + 1 => by
    obtain ⟨ih0, ih1⟩ := impl_IsTreeState.mono_l k
    refine ⟨?_, ?_⟩
    · intro y0 y1 y2 y3 y4 y5
      unfold impl_IsTreeState.l0
      exact zm11
    · intro y0 y1 y2 y3 y4 y5 y6 y7
      unfold impl_IsTreeState.l1
      exact zm11
theorem impl_IsTreeState.mono : ∀ a0 a1 a2 a3 k, LeO (impl_IsTreeState.f k a0 a1 a2 a3) (impl_IsTreeState.f (k + 1) a0 a1 a2 a3) := by
  intro a0 a1 a2 a3 k; obtain ⟨ih0, ih1⟩ := impl_IsTreeState.mono_l k; unfold impl_IsTreeState.f; exact zm11
end Go.Proofs.Ytjecgolakaiddaa.P
end

section
namespace Go.Proofs.Ytjecgolakaiddaa.Cf
set_option linter.unusedVariables false
set_option linter.unusedSimpArgs false
open Go.RowKit Go.Proofs.YtjecgolakaiddaaW.PrintWords Go.Proofs.Ytjecgolakaiddaa.P
theorem copy_eq (l : List Int) (h : l.length ≤ 1048576) : impl_copyInts.f l = some l := by
  unfold impl_copyInts.f
  rw [if_pos (by simp; omega)]
  rfl
end Go.Proofs.Ytjecgolakaiddaa.Cf
end

section
namespace Go.Proofs.Ytjecgolakaiddaa.P
open Go.RowKit Go.Proofs.YtjecgolakaiddaaW.PrintWords Go.Proofs.YtjecgolakaiddaaW.PrintLast Go.Proofs.YtjecgolakaiddaaW.PrintMore
attribute [local go_sem] max2_int min2_int max_two min_two max_three min_three max_four min_four
set_option linter.unusedVariables false
set_option linter.unusedSimpArgs false
def spec_Topple.f (k : Nat) (a0_0 : Int) (l0_1 : List (S70)) (l1 : List Int) (a2 : Int) (a3 : Int) : Option (List Int × Bool) := (spec_PileOk.f k a0_0 l0_1 l1 a2).bind fun t102 => (if t102 = true then (if a3 = a2 then (some (([] : List Int), false)) else ((spec_l01In.f a3 0 (wrap64 (a0_0 - 1))).bind fun t103 => (if t103 = true then (if 0 ≤ a3 then (if a3 < (l1.length : Int) then ((spec_Valence.f k a0_0 l0_1 a3).bind fun t105 => (if (rd l1 a3) < t105 then (some (([] : List Int), false)) else ((spec_l10Topple.f k a0_0 l0_1 l1 a2 a3).bind fun t106 => (some (t106, true))))) else (none)) else (none)) else (some (([] : List Int), false))))) else (some (([] : List Int), false)))
theorem spec_Topple.mono : ∀ a0 a1 a2 a3 a4 k, LeO (spec_Topple.f k a0 a1 a2 a3 a4) (spec_Topple.f (k + 1) a0 a1 a2 a3 a4) := by
  intro a0 a1 a2 a3 a4 k; unfold spec_Topple.f; repeat' first | (with_reducible apply spec_PileOk.mono) | (with_reducible apply spec_Valence.mono) | (with_reducible apply spec_l10Topple.mono) | (with_reducible exact LeO.refl _) | (with_reducible exact LeO.none _) | (with_reducible refine LeO.ite ?_ ?_) | (with_reducible refine LeO.bind ?_ (fun _ => ?_)) | apply spec_PileOk.mono | apply spec_Valence.mono | apply spec_l10Topple.mono | exact LeO.none _ | refine LeO.ite ?_ ?_ | refine LeO.bind ?_ (fun _ => ?_)
def impl_Topple.j0 : Nat → List Int → Int → Int → Bool → Int → List (S70) → Option (List Int × Bool)
  | 0, _, _, _, _, _, _ => none
  | k + 1, x1, x2, x3, x38, x102000, x102001 => if x38 = true then (some (([] : List Int), false)) else ((impl_copyInts.f x1).bind fun t106 => ((impl_fire.f k x102000 x102001 t106 x3 1).bind fun t109 => (if 0 ≤ x2 then (if x2 < (t106.length : Int) then (some ((t109.set (x2 : Int).toNat 0), true)) else (none)) else (none))))
def impl_Topple.f (k : Nat) (a0_0 : Int) (l0_1 : List (S70)) (l1 : List Int) (a2 : Int) (a3 : Int) : Option (List Int × Bool) := (impl_PileOk.f k a0_0 l0_1 l1 a2).bind fun t102 => (if t102 = true then (if a3 = a2 then (impl_Topple.j0 k l1 a2 a3 true a0_0 l0_1) else ((impl_within.f a3 0 (wrap64 (a0_0 - 1))).bind fun t103 => (if t103 = true then (if 0 ≤ a3 then (if a3 < (l1.length : Int) then ((impl_Valence.f k a0_0 l0_1 a3).bind fun t105 => (impl_Topple.j0 k l1 a2 a3 (decide ((rd l1 a3) < t105)) a0_0 l0_1)) else (none)) else (none)) else (impl_Topple.j0 k l1 a2 a3 true a0_0 l0_1)))) else (impl_Topple.j0 k l1 a2 a3 true a0_0 l0_1))
theorem impl_Topple.mono_l : ∀ k, (∀ y0 y1 y2 y3 y4 y5, LeO (impl_Topple.j0 k y0 y1 y2 y3 y4 y5) (impl_Topple.j0 (k + 1) y0 y1 y2 y3 y4 y5))
  | 0 => fun _ _ _ _ _ _ r h => by simp [impl_Topple.j0] at h
  | k + 1 => by
    have ih0 := impl_Topple.mono_l k
    · intro y0 y1 y2 y3 y4 y5
      unfold impl_Topple.j0
      exact zm19
theorem impl_Topple.mono : ∀ a0 a1 a2 a3 a4 k, LeO (impl_Topple.f k a0 a1 a2 a3 a4) (impl_Topple.f (k + 1) a0 a1 a2 a3 a4) := by
  intro a0 a1 a2 a3 a4 k; have ih0 := impl_Topple.mono_l k; unfold impl_Topple.f; exact zm19
end Go.Proofs.Ytjecgolakaiddaa.P
end

section
namespace Go.Proofs.Ytjecgolakaiddaa.Cf
set_option linter.unusedVariables false
set_option linter.unusedSimpArgs false
open Go.RowKit Go.Proofs.YtjecgolakaiddaaW.PrintWords Go.Proofs.Ytjecgolakaiddaa.P
theorem Less.congr {n : Nat} {es : List E} (hes : ∀ e ∈ es, EOk n e) {d x : List Int} {s t : Int → Int} (h : Less es d s x) (he : ∀ w : Int, 0 ≤ w → w < n → s w = t w) : Less es d t x :=
  ⟨h.1, fun w h0 h1 => by rw [h.2 w h0 h1, lap_congr hes he]⟩
/-- Where the graph is valid. -/
structure Gr (n : Nat) (es : List E) (q : Int) : Prop where
  n1 : 1 ≤ n
  n6 : n ≤ 6
  hes : ∀ e ∈ es, EOk n e
  hel : es.length ≤ 12
  hj : Joined n es
  hq : 0 ≤ q ∧ q < n
theorem Gr.of {n : Nat} {es : List E} {q : Int} (h : GOk (n : Int) es) (hq : 0 ≤ q ∧ q < n) : Gr n es q := by
  obtain ⟨h1, _, h3⟩ := h
  unfold EsOk at h1
  exact ⟨by omega, by omega, h1.2.2.2, h1.2.2.1, h3, hq⟩
theorem specTop {n : Nat} {es : List E} {q : Int} (g : Gr n es q) (x : List Int) (hx : x.length = n) (v : Int) (h0 : 0 ≤ v) (h1 : v < n) (hb : Bd x 1000000) :
    Ep (fun k => spec_l10Topple.f k (n : Int) es x q v) (fun r => Rep n r (fun w => if w = q then 0 else rd x w - lap es (one v 1) w)) := by
  have hn := g.n6
  have hq := g.hq
  have hs : Rep n ((List.replicate n (0 : Int)).set v.toNat 1) (one v 1) := (Rep.zero n).set h0 h1 1
  simp only [spec_l10Topple.f]
  refine Ep.pos (by omega) (Ep.pos (by omega) (Ep.pos (by omega) (Ep.pos (by simp; omega) ?_)))
  refine Ep.bind (specFire n g.n6 es g.hes g.hel x _ hx hs.1 (B := 1000000) (K := 1) ⟨by omega, by omega⟩ hb (hs.bd (fun w _ _ => by unfold one; split <;> omega)) (by omega)) ?_
  rintro r ⟨hr, _⟩
  have hr' := (hr.congr g.hes hs.2).rep hx
  have hl := hr'.1
  refine Ep.pos (by omega) (Ep.pos (by omega) (Ep.now ?_))
  exact hr'.set hq.1 hq.2 0
/-- A configuration before it topples. -/
structure Pre (n : Nat) (q : Int) (p : List Int) : Prop where
  len : p.length = n
  bd : ∀ v : Int, 0 ≤ v → v < n → v ≠ q → 0 ≤ rd p v ∧ rd p v ≤ 1000
  at_q : rd p q = 0
theorem Legal.bds {n : Nat} {es : List E} {q : Int} (g : Gr n es q) {p : List Int} (hp : Pre n q p) {s : Int → Int} (h : Legal n es q (rd p) s) :
    (∀ v : Int, 0 ≤ v → v < n → 0 ≤ s v ∧ s v ≤ 36000) ∧ sumN n (fun i => s (i : Int)) ≤ 216000 ∧ ∀ w : Int, 0 ≤ w → w < n → -500000 ≤ rd p w - lap es s w ∧ rd p w - lap es s w ≤ 500000 := by
  have h1 := h.small g.n6 g.hes g.hj g.hq (c := 1000) (by omega) (fun v h0 h1 h2 => (hp.bd v h0 h1 h2).2)
  refine ⟨fun v h0 h2 => by have := h1.1 v h0 h2; omega, by omega, fun w h0 h2 => ?_⟩
  have h3 := lap_bd g.hes g.hel (s := s) (L := 0) (S := 36000) (by omega) (fun v h0 h2 => by have := h1.1 v h0 h2; omega) w
  by_cases e : w = q
  · subst e
    have := hp.at_q
    omega
  · have := hp.bd w h0 h2 e
    omega
theorem specSettle_l0 {n : Nat} {es : List E} {q : Int} (g : Gr n es q) {p : List Int} (hp : Pre n q p) : ∀ (k : Nat) (s : Int → Int) (x c : List Int), 216000 < sumN n (fun i => s (i : Int)) + k → Legal n es q (rd p) s → Rep n x (fun w => if w = q then 0 else rd p w - lap es s w) → Rep n c s →
    Ep (fun f => spec_l10Settle.l0 f q x c (n : Int) es) (Settled n es q p) := by
  have hn := g.n6
  have hel := g.hel
  intro k
  induction k with
  | zero =>
    intro s x c hk hs _ _
    have := hs.bds g hp
    omega
  | succ k ih =>
    intro s x c hk hs hx hc
    have hb := hs.bds g hp
    have hxl := hx.1
    have hcl := hc.1
    refine Ep.up ?_
    simp only [spec_l10Settle.l0]
    refine Ep.bind (specUnst n es x q (by omega) (by omega)) ?_
    rintro v rfl
    refine Ep.ite (fun h => Ep.now ?_) (fun h => ?_)
    · refine ⟨s, hs, fun v h0 h1 h2 => ?_, hx, hc⟩
      have h3 := unst_neg hxl h v h0 h1 h2
      have h4 := hx.2 v h0 h1
      simp only [if_neg h2] at h4
      rw [h4] at h3
      exact h3
    · have hu := unst_pos hxl h
      generalize unst n es q x x.length 0 = v at hu ⊢
      obtain ⟨h0, h1, h2, h3⟩ := hu
      have hcv := hb.1 v h0 h1
      refine Ep.bind (specTop g x hxl v h0 h1 (hx.bd fun w w0 w1 => by
        have := hb.2.2 w w0 w1
        split <;> omega)) ?_
      intro r hr
      refine Ep.pos (by omega) (Ep.pos (by omega) ?_)
      rw [hc.2 v h0 h1, wrap_id (by omega) (by omega)]
      have h4 := hx.2 v h0 h1
      simp only [if_neg h2] at h4
      rw [h4] at h3
      refine ih (fun w => s w + one v 1 w) r _ ?_ (hs.step h0 h1 h2 h3) (hr.congr fun w w0 w1 => ?_) ((hc.set h0 h1 _).congr fun w _ _ => ?_)
      · rw [sum_grow h0 h1]
        omega
      · by_cases e : w = q
        · simp only [if_pos e]
        · have h5 := hx.2 w w0 w1
          simp only [if_neg e] at h5 ⊢
          rw [h5, lap_add]
          omega
      · unfold one
        by_cases e : w = v
        · rw [if_pos e, if_pos e, e]
        · rw [if_neg e, if_neg e]
          omega
theorem specSettle' {n : Nat} {es : List E} {q : Int} (g : Gr n es q) {p : List Int} (hp : Pre n q p) : Ep (fun k => spec_l10Settle.f k (n : Int) es p q) (Settled n es q p) := by
  have hn := g.n6
  have hl := hp.len
  simp only [spec_l10Settle.f]
  refine Ep.bind0 rfl (Ep.pos (by simp; omega) (Ep.pos (by omega) (Ep.pos (by omega) ?_)))
  refine specSettle_l0 g hp 216001 (fun _ => 0) p _ ?_ .zero ((Rep.self hl).congr fun w _ _ => ?_) (Rep.zero n)
  · simp only [sumN_zero]; omega
  · rw [lap_const (c := 0) (fun _ _ => ⟨rfl, rfl⟩)]
    split
    · rename_i e
      rw [e, hp.at_q]
    · omega
theorem specSettle {n : Nat} {es : List E} {q : Int} (g : Gr n es q) {p : List Int} (hp : Pre n q p) : Ep (fun k => spec_l10Settle.f k (n : Int) es p q) (· = settleS n es q p) := (specSettle' g hp).mono fun _ hr => hr.eq
theorem settleS_ok {n : Nat} {es : List E} {q : Int} (g : Gr n es q) {p : List Int} (hp : Pre n q p) : Settled n es q p (settleS n es q p) := by
  obtain ⟨r, hr, _⟩ := specSettle' g hp
  rw [← hr.eq]
  exact hr
theorem settleS_bd {n : Nat} {es : List E} {q : Int} (g : Gr n es q) {p : List Int} (hp : Pre n q p) : ∀ x ∈ (settleS n es q p).2, 0 ≤ x ∧ x ≤ 36000 := by
  obtain ⟨s, hs, _, _, h4⟩ := settleS_ok g hp
  intro x hx
  obtain ⟨w, h0, h1, rfl⟩ := h4.mem hx
  exact (hs.bds g hp).1 w h0 h1
theorem implStab_l0 {n : Nat} {es : List E} {q : Int} (g : Gr n es q) {p : List Int} (hp : Pre n q p) : ∀ (k : Nat) (s : Int → Int) (x c : List Int), 216000 < sumN n (fun i => s (i : Int)) + k → Legal n es q (rd p) s → Rep n x (fun w => rd p w - lap es s w) → Rep n c s →
    Ep (fun f => impl_stabilize.l0 f q x c (unst n es q x x.length 0) (n : Int) es) (Settled n es q p) := by
  have hn := g.n6
  have hel := g.hel
  have hq := g.hq
  intro k
  induction k with
  | zero =>
    intro s x c hk hs _ _
    have := hs.bds g hp
    omega
  | succ k ih =>
    intro s x c hk hs hx hc
    have hb := hs.bds g hp
    have hxl := hx.1
    have hcl := hc.1
    refine Ep.up ?_
    simp only [impl_stabilize.l0]
    refine Ep.ite (fun h => ?_) (fun h => ?_)
    · have hu := unst_pos (es := es) (q := q) hxl (by omega)
      generalize unst n es q x x.length 0 = v at hu ⊢
      obtain ⟨h0, h1, h2, h3⟩ := hu
      have hcv := hb.1 v h0 h1
      have hxv := hb.2.2 v h0 h1
      have hvp := val_pos g.hj hq ⟨h0, h1⟩ h2
      have hx0 : rd x v = rd p v - lap es s v := hx.2 v h0 h1
      have hdv := Int.ediv_mul_le (rd x v) (b := val es v) (by omega)
      have hd0 : 1 ≤ rd x v / val es v := (Int.le_ediv_iff_mul_le hvp).2 (by omega)
      have hdm : rd x v / val es v ≤ rd x v := Int.ediv_le_self _ (by omega)
      have htd : Int.tdiv (rd x v) (val es v) = rd x v / val es v := Int.tdiv_eq_ediv_of_nonneg (by omega)
      have hbx : Bd x 1000000 := hx.bd fun w w0 w1 => by
        have := hb.2.2 w w0 w1
        omega
      refine Ep.pos (by omega) (Ep.pos (by omega) ?_)
      refine Ep.bind (implValence n es v (by omega)) ?_
      rintro _ rfl
      rw [valG_in ⟨h0, h1⟩]
      refine Ep.neg (by omega) ?_
      rw [htd, wrap_id (x := rd x v / val es v) (by omega) (by omega)]
      generalize rd x v / val es v = m at hdv hd0 hdm ⊢
      obtain ⟨m, rfl⟩ := Int.eq_ofNat_of_zero_le (a := m) (by omega)
      refine Ep.bind (implFire n es g.hes g.hel x v m hxl ⟨h0, h1⟩ (B := 1000000) (K := 1000000) ⟨by omega, by omega⟩ hbx (by omega) (by omega)) ?_
      rintro r ⟨hr, _⟩
      have hr' := hr.rep hxl
      have hrl := hr'.1
      have hs' := hs.many g.hes h0 h1 h2 m (by rw [← hx0]; exact hdv)
      have hsb := (hs'.bds g hp).1 v h0 h1
      simp only [one, if_true] at hsb
      refine Ep.pos (by omega) ?_
      rw [hc.2 v h0 h1, wrap_id (x := s v + (m : Int)) (by omega) (by omega)]
      refine Ep.bind (implUnst n es r q (by omega) (by omega)) ?_
      rintro _ rfl
      refine ih (fun w => s w + one v m w) r _ ?_ hs' (hr'.congr fun w w0 w1 => ?_) ((hc.set h0 h1 _).congr fun w _ _ => ?_)
      · rw [sum_grow h0 h1]
        omega
      · have h5 : rd x w = rd p w - lap es s w := hx.2 w w0 w1
        rw [h5, lap_add]
        omega
      · unfold one
        by_cases e : w = v
        · rw [if_pos e, if_pos e, e]
        · rw [if_neg e, if_neg e]
          omega
    · refine Ep.pos (by omega) (Ep.pos (by omega) (Ep.now ?_))
      refine ⟨s, hs, fun v h0 h1 h2 => ?_, hx.set hq.1 hq.2 0, hc⟩
      have h3 := unst_neg (es := es) (q := q) hxl (by omega) v h0 h1 h2
      rw [hx.2 v h0 h1] at h3
      exact h3
theorem implStab {n : Nat} {es : List E} {q : Int} (g : Gr n es q) {p : List Int} (hp : Pre n q p) : Ep (fun k => impl_stabilize.f k (n : Int) es p q) (· = settleS n es q p) := by
  have hn := g.n6
  have hl := hp.len
  have hel := g.hel
  simp only [impl_stabilize.f]
  refine Ep.bind0 (copy_eq p (by omega)) (Ep.pos (by omega) (Ep.pos (by omega) ?_))
  refine Ep.bind (implUnst n es p q (by omega) (by omega)) ?_
  rintro _ rfl
  refine (implStab_l0 g hp 216001 (fun _ => 0) p _ ?_ .zero ((Rep.self hl).congr fun w _ _ => ?_) (Rep.zero n)).mono fun r hr => hr.eq
  · simp only [sumN_zero]; omega
  · rw [lap_const (c := 0) (fun _ _ => ⟨rfl, rfl⟩)]
    omega
/-- The numbers are no greater than a thousand million. -/
def Mod (l : List Int) : Prop := ∀ x ∈ l, -1000000000 ≤ x ∧ x ≤ 1000000000
theorem implSum_l0 (l : List Int) (hl : l.length ≤ 1048576) (hm : Mod l) : ∀ (d i : Nat) (a : Int), i + d = l.length → -(1000000000 * (i : Int)) ≤ a → a ≤ 1000000000 * (i : Int) → Ep (fun k => impl_sumOf.l0 k a l (l.length : Int) (i : Int)) (· = a + (l.drop i).sum) := by
  intro d
  induction d with
  | zero =>
    intro i a hi h0 h1
    refine Ep.up ?_
    simp only [impl_sumOf.l0]
    refine Ep.neg (by omega) (Ep.now ?_)
    rw [List.drop_of_length_le (by omega)]
    simp
  | succ d ih =>
    intro i a hi h0 h1
    have hlt : i < l.length := by omega
    have hx := hm _ (List.getElem_mem hlt)
    refine Ep.up ?_
    simp only [impl_sumOf.l0]
    refine Ep.pos (by omega) (Ep.pos (by omega) (Ep.pos (by omega) ?_))
    rw [rd_get hlt, wrap_succ (by omega), wrap_id (by omega) (by omega), List.drop_eq_getElem_cons hlt]
    refine (ih (i + 1) _ (by omega) (by omega) (by omega)).mono ?_
    rintro _ rfl
    rw [List.sum_cons]
    omega
theorem implSum (l : List Int) (hl : l.length ≤ 1048576) (hm : Mod l) : Ep (fun k => impl_sumOf.f k l) (· = l.sum) := by
  simp only [impl_sumOf.f]
  refine (implSum_l0 l hl hm l.length 0 0 (by omega) (by omega) (by omega)).mono ?_
  rintro _ rfl
  simp
theorem specSum_l0 (l : List Int) (hl : l.length ≤ 1048576) (hm : Mod l) : ∀ (d i : Nat) (a : Int), i + d = l.length → -(1000000000 * (i : Int)) ≤ a → a ≤ 1000000000 * (i : Int) → Ep (fun k => spec_DegreeOf.l0 k a l (l.length : Int) (i : Int)) (· = a + (l.drop i).sum) := by
  intro d
  induction d with
  | zero =>
    intro i a hi h0 h1
    refine Ep.up ?_
    simp only [spec_DegreeOf.l0]
    refine Ep.neg (by omega) (Ep.now ?_)
    rw [List.drop_of_length_le (by omega)]
    simp
  | succ d ih =>
    intro i a hi h0 h1
    have hlt : i < l.length := by omega
    have hx := hm _ (List.getElem_mem hlt)
    refine Ep.up ?_
    simp only [spec_DegreeOf.l0]
    refine Ep.pos (by omega) (Ep.pos (by omega) (Ep.pos (by omega) ?_))
    rw [rd_get hlt, wrap_succ (by omega), wrap_id (by omega) (by omega), List.drop_eq_getElem_cons hlt]
    refine (ih (i + 1) _ (by omega) (by omega) (by omega)).mono ?_
    rintro _ rfl
    rw [List.sum_cons]
    omega
theorem specSum (l : List Int) (hl : l.length ≤ 1048576) (hm : Mod l) : Ep (fun k => spec_DegreeOf.f k l) (· = l.sum) := by
  simp only [spec_DegreeOf.f]
  refine (specSum_l0 l hl hm l.length 0 0 (by omega) (by omega) (by omega)).mono ?_
  rintro _ rfl
  simp
end Go.Proofs.Ytjecgolakaiddaa.Cf
end

section
namespace Go.Proofs.Ytjecgolakaiddaa.P
open Go.RowKit Go.Proofs.YtjecgolakaiddaaW.PrintWords Go.Proofs.YtjecgolakaiddaaW.PrintLast Go.Proofs.YtjecgolakaiddaaW.PrintMore
attribute [local go_sem] max2_int min2_int max_two min_two max_three min_three max_four min_four
set_option linter.unusedVariables false
set_option linter.unusedSimpArgs false
def spec_Stabilize.f (k : Nat) (a0_0 : Int) (l0_1 : List (S70)) (l1 : List Int) (a2 : Int) : Option (List Int × List Int × Bool) := (spec_PileOk.f k a0_0 l0_1 l1 a2).bind fun t102 => (if t102 = true then ((spec_l10Settle.f k a0_0 l0_1 l1 a2).bind fun bt103 => (some (bt103.1, bt103.2, true))) else (some (([] : List Int), ([] : List Int), false)))
theorem spec_Stabilize.mono : ∀ a0 a1 a2 a3 k, LeO (spec_Stabilize.f k a0 a1 a2 a3) (spec_Stabilize.f (k + 1) a0 a1 a2 a3) := by
  intro a0 a1 a2 a3 k; unfold spec_Stabilize.f; repeat' first | (with_reducible apply spec_PileOk.mono) | (with_reducible apply spec_l10Settle.mono) | (with_reducible exact LeO.refl _) | (with_reducible exact LeO.none _) | (with_reducible refine LeO.ite ?_ ?_) | (with_reducible refine LeO.bind ?_ (fun _ => ?_)) | apply spec_PileOk.mono | apply spec_l10Settle.mono | exact LeO.none _ | refine LeO.ite ?_ ?_ | refine LeO.bind ?_ (fun _ => ?_)
def impl_Stabilize.f (k : Nat) (a0_0 : Int) (l0_1 : List (S70)) (l1 : List Int) (a2 : Int) : Option (List Int × List Int × Bool) := (impl_PileOk.f k a0_0 l0_1 l1 a2).bind fun t102 => (if t102 = true then ((impl_stabilize.f k a0_0 l0_1 l1 a2).bind fun bt103 => (some (bt103.1, bt103.2, true))) else (some (([] : List Int), ([] : List Int), false)))
theorem impl_Stabilize.mono : ∀ a0 a1 a2 a3 k, LeO (impl_Stabilize.f k a0 a1 a2 a3) (impl_Stabilize.f (k + 1) a0 a1 a2 a3) := by
  intro a0 a1 a2 a3 k; unfold impl_Stabilize.f; repeat' first | (with_reducible apply impl_PileOk.mono) | (with_reducible apply impl_stabilize.mono) | (with_reducible exact LeO.refl _) | (with_reducible exact LeO.none _) | (with_reducible refine LeO.ite ?_ ?_) | (with_reducible refine LeO.bind ?_ (fun _ => ?_)) | apply impl_PileOk.mono | apply impl_stabilize.mono | exact LeO.none _ | refine LeO.ite ?_ ?_ | refine LeO.bind ?_ (fun _ => ?_)
def spec_AvalancheSize.f (k : Nat) (a0_0 : Int) (l0_1 : List (S70)) (l1 : List Int) (a2 : Int) : Option (Int) := (spec_Stabilize.f k a0_0 l0_1 l1 a2).bind fun bt102 => (if bt102.2.2 = true then ((spec_DegreeOf.f k bt102.2.1).bind fun t109 => (some t109)) else (some (-1)))
theorem spec_AvalancheSize.mono : ∀ a0 a1 a2 a3 k, LeO (spec_AvalancheSize.f k a0 a1 a2 a3) (spec_AvalancheSize.f (k + 1) a0 a1 a2 a3) := by
  intro a0 a1 a2 a3 k; unfold spec_AvalancheSize.f; repeat' first | (with_reducible apply spec_DegreeOf.mono) | (with_reducible apply spec_Stabilize.mono) | (with_reducible exact LeO.refl _) | (with_reducible exact LeO.none _) | (with_reducible refine LeO.ite ?_ ?_) | (with_reducible refine LeO.bind ?_ (fun _ => ?_)) | apply spec_DegreeOf.mono | apply spec_Stabilize.mono | exact LeO.none _ | refine LeO.ite ?_ ?_ | refine LeO.bind ?_ (fun _ => ?_)
def impl_AvalancheSize.f (k : Nat) (a0_0 : Int) (l0_1 : List (S70)) (l1 : List Int) (a2 : Int) : Option (Int) := (impl_Stabilize.f k a0_0 l0_1 l1 a2).bind fun bt102 => (if bt102.2.2 = true then ((impl_sumOf.f k bt102.2.1).bind fun t109 => (some t109)) else (some (-1)))
theorem impl_AvalancheSize.mono : ∀ a0 a1 a2 a3 k, LeO (impl_AvalancheSize.f k a0 a1 a2 a3) (impl_AvalancheSize.f (k + 1) a0 a1 a2 a3) := by
  intro a0 a1 a2 a3 k; unfold impl_AvalancheSize.f; repeat' first | (with_reducible apply impl_Stabilize.mono) | (with_reducible apply impl_sumOf.mono) | (with_reducible exact LeO.refl _) | (with_reducible exact LeO.none _) | (with_reducible refine LeO.ite ?_ ?_) | (with_reducible refine LeO.bind ?_ (fun _ => ?_)) | apply impl_Stabilize.mono | apply impl_sumOf.mono | exact LeO.none _ | refine LeO.ite ?_ ?_ | refine LeO.bind ?_ (fun _ => ?_)
end Go.Proofs.Ytjecgolakaiddaa.P
end

section
namespace Go.Proofs.Ytjecgolakaiddaa.Cf
set_option linter.unusedVariables false
set_option linter.unusedSimpArgs false
open Go.RowKit Go.Proofs.YtjecgolakaiddaaW.PrintWords Go.Proofs.Ytjecgolakaiddaa.P
theorem pOk_pre {n : Int} {es : List E} {p : List Int} {q : Int} (h : pOk n es p q = true) : ∃ m : Nat, n = m ∧ Gr m es q ∧ Pre m q p := by
  obtain ⟨⟨h1, h2, h3⟩, h4, h5, h6⟩ := pOk_iff.1 h
  obtain ⟨m, rfl⟩ := Int.eq_ofNat_of_zero_le (a := n) (by omega)
  have hl : p.length = m := by omega
  refine ⟨m, rfl, Gr.of h1 h4, ⟨hl, fun v v0 v1 _ => ?_, h6⟩⟩
  obtain ⟨i, rfl⟩ := Int.eq_ofNat_of_zero_le v0
  have hi : i < p.length := by omega
  have := h3 _ (List.getElem_mem hi)
  have := h5 _ (List.getElem_mem hi)
  rw [rd_get hi]
  omega
end Go.Proofs.Ytjecgolakaiddaa.Cf
end

section
namespace Go.Proofs.Ytjecgolakaiddaa.P
open Go.RowKit Go.Proofs.YtjecgolakaiddaaW.PrintWords Go.Proofs.YtjecgolakaiddaaW.PrintLast Go.Proofs.YtjecgolakaiddaaW.PrintMore
attribute [local go_sem] max2_int min2_int max_two min_two max_three min_three max_four min_four
set_option linter.unusedVariables false
set_option linter.unusedSimpArgs false
mutual
def spec_Multiplicity.j0 : Nat → Int → Int → Int → Bool → Int → List (S70) → Option (Int)
  | 0, _, _, _, _, _, _ => none
  | k + 1, x1, x2, x7, x24, x102000, x102001 => if x24 = true then (some 0) else (spec_Multiplicity.l0 k x1 x2 x7 x102001 (x102001.length : Int) 0)
def spec_Multiplicity.l0 : Nat → Int → Int → Int → List (S70) → Int → Int → Option (Int)
  | 0, _, _, _, _, _, _ => none
  | k + 1, x1, x2, x7, x26, x27, x28 => if x28 < x27 then (if 0 ≤ x28 then (if x28 < (x26.length : Int) then (if ((rd_T70 x26 x28).f0) = (mn x1 x2) then (if ((rd_T70 x26 x28).f1) = (mx x1 x2) then (spec_Multiplicity.l0 k x1 x2 (wrap64 (x7 + 1)) x26 x27 (wrap64 (x28 + 1))) else (spec_Multiplicity.l0 k x1 x2 x7 x26 x27 (wrap64 (x28 + 1)))) else (spec_Multiplicity.l0 k x1 x2 x7 x26 x27 (wrap64 (x28 + 1)))) else (none)) else (none)) else (some x7)
end
def spec_Multiplicity.f (k : Nat) (a0_0 : Int) (l0_1 : List (S70)) (a1 : Int) (a2 : Int) : Option (Int) := (spec_l02Vert.f a0_0 l0_1 a1).bind fun t102 => (if t102 = true then ((spec_l02Vert.f a0_0 l0_1 a2).bind fun t103 => (if t103 = true then (spec_Multiplicity.j0 k a1 a2 0 (a1 == a2) a0_0 l0_1) else (spec_Multiplicity.j0 k a1 a2 0 true a0_0 l0_1))) else (spec_Multiplicity.j0 k a1 a2 0 true a0_0 l0_1))
theorem spec_Multiplicity.mono_l : ∀ k, (∀ y0 y1 y2 y3 y4 y5, LeO (spec_Multiplicity.j0 k y0 y1 y2 y3 y4 y5) (spec_Multiplicity.j0 (k + 1) y0 y1 y2 y3 y4 y5)) ∧ (∀ y0 y1 y2 y3 y4 y5, LeO (spec_Multiplicity.l0 k y0 y1 y2 y3 y4 y5) (spec_Multiplicity.l0 (k + 1) y0 y1 y2 y3 y4 y5))
  | 0 => ⟨fun _ _ _ _ _ _ r h => by simp [spec_Multiplicity.j0] at h, fun _ _ _ _ _ _ r h => by simp [spec_Multiplicity.l0] at h⟩
  | k + 1 => by
    obtain ⟨ih0, ih1⟩ := spec_Multiplicity.mono_l k
    refine ⟨?_, ?_⟩
    · intro y0 y1 y2 y3 y4 y5
      unfold spec_Multiplicity.j0
      exact zm1
    · intro y0 y1 y2 y3 y4 y5
      unfold spec_Multiplicity.l0
      exact zm1
theorem spec_Multiplicity.mono : ∀ a0 a1 a2 a3 k, LeO (spec_Multiplicity.f k a0 a1 a2 a3) (spec_Multiplicity.f (k + 1) a0 a1 a2 a3) := by
  intro a0 a1 a2 a3 k; obtain ⟨ih0, ih1⟩ := spec_Multiplicity.mono_l k; unfold spec_Multiplicity.f; exact zm1
end Go.Proofs.Ytjecgolakaiddaa.P
end

section
namespace Go.Proofs.Ytjecgolakaiddaa.P
open Go.RowKit Go.Proofs.YtjecgolakaiddaaW.PrintWords Go.Proofs.YtjecgolakaiddaaW.PrintLast Go.Proofs.YtjecgolakaiddaaW.PrintMore
attribute [local go_sem] max2_int min2_int max_two min_two max_three min_three max_four min_four
set_option linter.unusedVariables false
set_option linter.unusedSimpArgs false
mutual
def impl_Multiplicity.j0 : Nat → Int → Int → Bool → Int → List (S70) → Option (Int)
  | 0, _, _, _, _, _ => none
  | k + 1, x1, x2, x26, x102000, x102001 => if x26 = true then (some 0) else (impl_Multiplicity.l0 k x1 x2 0 x102001 (x102001.length : Int) 0)
def impl_Multiplicity.l0 : Nat → Int → Int → Int → List (S70) → Int → Int → Option (Int)
  | 0, _, _, _, _, _, _ => none
  | k + 1, x1, x2, x7, x28, x29, x30 => if x30 < x29 then (if 0 ≤ x30 then (if x30 < (x28.length : Int) then (if ((rd_T70 x28 x30).f0) = (mn x1 x2) then (if ((rd_T70 x28 x30).f1) = (mx x1 x2) then (impl_Multiplicity.l0 k x1 x2 (wrap64 (x7 + 1)) x28 x29 (wrap64 (x30 + 1))) else (impl_Multiplicity.l0 k x1 x2 x7 x28 x29 (wrap64 (x30 + 1)))) else (impl_Multiplicity.l0 k x1 x2 x7 x28 x29 (wrap64 (x30 + 1)))) else (none)) else (none)) else (some x7)
end
def impl_Multiplicity.f (k : Nat) (a0_0 : Int) (l0_1 : List (S70)) (a1 : Int) (a2 : Int) : Option (Int) := if (mn a1 a2) < 0 then (impl_Multiplicity.j0 k a1 a2 true a0_0 l0_1) else (if (mx a1 a2) ≥ a0_0 then (impl_Multiplicity.j0 k a1 a2 true a0_0 l0_1) else (impl_Multiplicity.j0 k a1 a2 (a1 == a2) a0_0 l0_1))
theorem impl_Multiplicity.mono_l : ∀ k, (∀ y0 y1 y2 y3 y4, LeO (impl_Multiplicity.j0 k y0 y1 y2 y3 y4) (impl_Multiplicity.j0 (k + 1) y0 y1 y2 y3 y4)) ∧ (∀ y0 y1 y2 y3 y4 y5, LeO (impl_Multiplicity.l0 k y0 y1 y2 y3 y4 y5) (impl_Multiplicity.l0 (k + 1) y0 y1 y2 y3 y4 y5))
  | 0 => ⟨fun _ _ _ _ _ r h => by simp [impl_Multiplicity.j0] at h, fun _ _ _ _ _ _ r h => by simp [impl_Multiplicity.l0] at h⟩
  | k + 1 => by
    obtain ⟨ih0, ih1⟩ := impl_Multiplicity.mono_l k
    refine ⟨?_, ?_⟩
    · intro y0 y1 y2 y3 y4
      unfold impl_Multiplicity.j0
      exact zm1
    · intro y0 y1 y2 y3 y4 y5
      unfold impl_Multiplicity.l0
      exact zm1
theorem impl_Multiplicity.mono : ∀ a0 a1 a2 a3 k, LeO (impl_Multiplicity.f k a0 a1 a2 a3) (impl_Multiplicity.f (k + 1) a0 a1 a2 a3) := by
  intro a0 a1 a2 a3 k; obtain ⟨ih0, ih1⟩ := impl_Multiplicity.mono_l k; unfold impl_Multiplicity.f; exact zm1
end Go.Proofs.Ytjecgolakaiddaa.P
end

section
namespace Go.Proofs.Ytjecgolakaiddaa.P
open Go.RowKit Go.Proofs.YtjecgolakaiddaaW.PrintWords Go.Proofs.YtjecgolakaiddaaW.PrintLast Go.Proofs.YtjecgolakaiddaaW.PrintMore
attribute [local go_sem] max2_int min2_int max_two min_two max_three min_three max_four min_four
set_option linter.unusedVariables false
set_option linter.unusedSimpArgs false
def slices_Index_int_int.l0 : Nat → List Int → Int → Int → Int → Option (Int)
  | 0, _, _, _, _ => none
  | k + 1, x0, x1, x7, x8 => if x8 < x7 then (if 0 ≤ x8 then (if x8 < (x0.length : Int) then (if x1 = (rd x0 x8) then (some x8) else (slices_Index_int_int.l0 k x0 x1 x7 (wrap64 (x8 + 1)))) else (none)) else (none)) else (some (-1))
def slices_Index_int_int.f (k : Nat) (l0 : List Int) (a1 : Int) : Option (Int) := slices_Index_int_int.l0 k l0 a1 (l0.length : Int) 0
theorem slices_Index_int_int.mono_l : ∀ k, (∀ y0 y1 y2 y3, LeO (slices_Index_int_int.l0 k y0 y1 y2 y3) (slices_Index_int_int.l0 (k + 1) y0 y1 y2 y3))
  | 0 => fun _ _ _ _ r h => by simp [slices_Index_int_int.l0] at h
  | k + 1 => by
    have ih0 := slices_Index_int_int.mono_l k
    · intro y0 y1 y2 y3
      unfold slices_Index_int_int.l0
      exact zm0
theorem slices_Index_int_int.mono : ∀ a0 a1 k, LeO (slices_Index_int_int.f k a0 a1) (slices_Index_int_int.f (k + 1) a0 a1) := by
  intro a0 a1 k; have ih0 := slices_Index_int_int.mono_l k; unfold slices_Index_int_int.f; exact zm0
def slices_Contains_int_int.f (k : Nat) (l0 : List Int) (a1 : Int) : Option (Bool) := (slices_Index_int_int.f k l0 a1).bind fun t101 => (some (decide (t101 ≥ 0)))
theorem slices_Contains_int_int.mono : ∀ a0 a1 k, LeO (slices_Contains_int_int.f k a0 a1) (slices_Contains_int_int.f (k + 1) a0 a1) := by
  intro a0 a1 k; unfold slices_Contains_int_int.f; repeat' first | (with_reducible apply slices_Index_int_int.mono) | (with_reducible exact LeO.refl _) | (with_reducible exact LeO.none _) | (with_reducible refine LeO.ite ?_ ?_) | (with_reducible refine LeO.bind ?_ (fun _ => ?_)) | apply slices_Index_int_int.mono | exact LeO.none _ | refine LeO.ite ?_ ?_ | refine LeO.bind ?_ (fun _ => ?_)
mutual
def spec_l05Burn.l0 : Nat → List Int → List Int → List Bool → Int → List (S70) → Option (List Int)
  | 0, _, _, _, _, _ => none
  | k + 1, x1, x7, x8, x102000, x102001 => spec_l05Burn.l1 k x1 x7 x8 (-1) (wrap64 (x102000 - 1)) x102000 x102001
def spec_l05Burn.l1 : Nat → List Int → List Int → List Bool → Int → Int → Int → List (S70) → Option (List Int)
  | 0, _, _, _, _, _, _, _ => none
  | k + 1, x1, x7, x8, x9, x10, x102000, x102001 => if x10 ≥ 0 then (spec_l05Burn.l2 k x1 x7 x8 x9 x10 0 0 x102000 x102001) else (if x9 < 0 then (some x7) else (if 0 ≤ x9 then (if x9 < (x8.length : Int) then (if x7.length < 17592186044416 then (spec_l05Burn.l0 k x1 (x7 ++ [x9]) (x8.set (x9 : Int).toNat true) x102000 x102001) else (none)) else (none)) else (none)))
def spec_l05Burn.l2 : Nat → List Int → List Int → List Bool → Int → Int → Int → Int → Int → List (S70) → Option (List Int)
  | 0, _, _, _, _, _, _, _, _, _ => none
  | k + 1, x1, x7, x8, x9, x10, x11, x12, x102000, x102001 => if x12 < x102000 then (if 0 ≤ x12 then (if x12 < (x8.length : Int) then (if rdOf false x8 x12 = true then ((spec_Multiplicity.f k x102000 x102001 x10 x12).bind fun t114 => (spec_l05Burn.l2 k x1 x7 x8 x9 x10 (wrap64 (x11 + t114)) (wrap64 (x12 + 1)) x102000 x102001)) else (spec_l05Burn.l2 k x1 x7 x8 x9 x10 x11 (wrap64 (x12 + 1)) x102000 x102001)) else (none)) else (none)) else (if 0 ≤ x10 then (if x10 < (x8.length : Int) then (if rdOf false x8 x10 = true then (spec_l05Burn.l1 k x1 x7 x8 x9 (wrap64 (x10 - 1)) x102000 x102001) else (if x10 < (x1.length : Int) then (if (rd x1 x10) < x11 then (spec_l05Burn.l1 k x1 x7 x8 x10 (wrap64 (x10 - 1)) x102000 x102001) else (spec_l05Burn.l1 k x1 x7 x8 x9 (wrap64 (x10 - 1)) x102000 x102001)) else (none))) else (none)) else (none))
end
def spec_l05Burn.f (k : Nat) (a0_0 : Int) (l0_1 : List (S70)) (l1 : List Int) (a2 : Int) : Option (List Int) := if 0 ≤ a0_0 then (if (a0_0 : Int).toNat ≤ 281474976710656 then ((some (List.replicate (a0_0 : Int).toNat false : List Bool)).bind fun y105 => (if 0 ≤ a2 then (if a2 < (y105.length : Int) then (spec_l05Burn.l0 k l1 (([a2] : List Int)) (y105.set (a2 : Int).toNat true) a0_0 l0_1) else (none)) else (none))) else (none)) else (none)
theorem spec_l05Burn.mono_l : ∀ k, (∀ y0 y1 y2 y3 y4, LeO (spec_l05Burn.l0 k y0 y1 y2 y3 y4) (spec_l05Burn.l0 (k + 1) y0 y1 y2 y3 y4)) ∧ (∀ y0 y1 y2 y3 y4 y5 y6, LeO (spec_l05Burn.l1 k y0 y1 y2 y3 y4 y5 y6) (spec_l05Burn.l1 (k + 1) y0 y1 y2 y3 y4 y5 y6)) ∧ (∀ y0 y1 y2 y3 y4 y5 y6 y7 y8, LeO (spec_l05Burn.l2 k y0 y1 y2 y3 y4 y5 y6 y7 y8) (spec_l05Burn.l2 (k + 1) y0 y1 y2 y3 y4 y5 y6 y7 y8))
  | 0 => ⟨fun _ _ _ _ _ r h => by simp [spec_l05Burn.l0] at h, fun _ _ _ _ _ _ _ r h => by simp [spec_l05Burn.l1] at h, fun _ _ _ _ _ _ _ _ _ r h => by simp [spec_l05Burn.l2] at h⟩
  | k + 1 => by
    obtain ⟨ih0, ih1, ih2⟩ := spec_l05Burn.mono_l k
    refine ⟨?_, ?_, ?_⟩
    · intro y0 y1 y2 y3 y4
      unfold spec_l05Burn.l0
      exact zm5
    · intro y0 y1 y2 y3 y4 y5 y6
      unfold spec_l05Burn.l1
      exact zm5
    · intro y0 y1 y2 y3 y4 y5 y6 y7 y8
      unfold spec_l05Burn.l2
      exact zm5
theorem spec_l05Burn.mono : ∀ a0 a1 a2 a3 k, LeO (spec_l05Burn.f k a0 a1 a2 a3) (spec_l05Burn.f (k + 1) a0 a1 a2 a3) := by
  intro a0 a1 a2 a3 k; obtain ⟨ih0, ih1, ih2⟩ := spec_l05Burn.mono_l k; unfold spec_l05Burn.f; exact zm5
end Go.Proofs.Ytjecgolakaiddaa.P
end

section
namespace Go.Proofs.Ytjecgolakaiddaa.P
open Go.RowKit Go.Proofs.YtjecgolakaiddaaW.PrintWords Go.Proofs.YtjecgolakaiddaaW.PrintLast Go.Proofs.YtjecgolakaiddaaW.PrintMore
attribute [local go_sem] max2_int min2_int max_two min_two max_three min_three max_four min_four
set_option linter.unusedVariables false
set_option linter.unusedSimpArgs false
mutual
def impl_burn.l0 : Nat → List Int → List Int → Int → List (S70) → Option (List Int)
  | 0, _, _, _, _ => none
  | k + 1, x1, x7, x102000, x102001 => impl_burn.l1 k x1 x7 (-1) 0 x102000 x102001
def impl_burn.l1 : Nat → List Int → List Int → Int → Int → Int → List (S70) → Option (List Int)
  | 0, _, _, _, _, _, _ => none
  | k + 1, x1, x7, x8, x9, x102000, x102001 => if x9 < x102000 then (impl_burn.j2 k x1 x7 x8 x9 (decide (x8 < 0)) x102000 x102001) else (impl_burn.j2 k x1 x7 x8 x9 false x102000 x102001)
def impl_burn.j2 : Nat → List Int → List Int → Int → Int → Bool → Int → List (S70) → Option (List Int)
  | 0, _, _, _, _, _, _, _ => none
  | k + 1, x1, x7, x8, x9, x22, x102000, x102001 => if x22 = true then (impl_burn.l2 k x1 x7 x8 x9 0 x7 (x7.length : Int) 0 x102000 x102001) else (if x8 < 0 then (some x7) else (if x7.length < 17592186044416 then (impl_burn.l0 k x1 (x7 ++ [x8]) x102000 x102001) else (none)))
def impl_burn.l2 : Nat → List Int → List Int → Int → Int → Int → List Int → Int → Int → Int → List (S70) → Option (List Int)
  | 0, _, _, _, _, _, _, _, _, _, _ => none
  | k + 1, x1, x7, x8, x9, x10, x25, x26, x27, x102000, x102001 => if x27 < x26 then (if 0 ≤ x27 then (if x27 < (x25.length : Int) then ((impl_Multiplicity.f k x102000 x102001 x9 (rd x25 x27)).bind fun t109 => (impl_burn.l2 k x1 x7 x8 x9 (wrap64 (x10 + t109)) x25 x26 (wrap64 (x27 + 1)) x102000 x102001)) else (none)) else (none)) else ((slices_Contains_int_int.f k x7 x9).bind fun t110 => (if t110 = true then (impl_burn.l1 k x1 x7 x8 (wrap64 (x9 + 1)) x102000 x102001) else (if 0 ≤ x9 then (if x9 < (x1.length : Int) then (if (rd x1 x9) < x10 then (impl_burn.l1 k x1 x7 x9 (wrap64 (x9 + 1)) x102000 x102001) else (impl_burn.l1 k x1 x7 x8 (wrap64 (x9 + 1)) x102000 x102001)) else (none)) else (none))))
end
def impl_burn.f (k : Nat) (a0_0 : Int) (l0_1 : List (S70)) (l1 : List Int) (a2 : Int) : Option (List Int) := impl_burn.l0 k l1 (([a2] : List Int)) a0_0 l0_1
theorem impl_burn.mono_l : ∀ k, (∀ y0 y1 y2 y3, LeO (impl_burn.l0 k y0 y1 y2 y3) (impl_burn.l0 (k + 1) y0 y1 y2 y3)) ∧ (∀ y0 y1 y2 y3 y4 y5, LeO (impl_burn.l1 k y0 y1 y2 y3 y4 y5) (impl_burn.l1 (k + 1) y0 y1 y2 y3 y4 y5)) ∧ (∀ y0 y1 y2 y3 y4 y5 y6, LeO (impl_burn.j2 k y0 y1 y2 y3 y4 y5 y6) (impl_burn.j2 (k + 1) y0 y1 y2 y3 y4 y5 y6)) ∧ (∀ y0 y1 y2 y3 y4 y5 y6 y7 y8 y9, LeO (impl_burn.l2 k y0 y1 y2 y3 y4 y5 y6 y7 y8 y9) (impl_burn.l2 (k + 1) y0 y1 y2 y3 y4 y5 y6 y7 y8 y9))
  | 0 => ⟨fun _ _ _ _ r h => by simp [impl_burn.l0] at h, fun _ _ _ _ _ _ r h => by simp [impl_burn.l1] at h, fun _ _ _ _ _ _ _ r h => by simp [impl_burn.j2] at h, fun _ _ _ _ _ _ _ _ _ _ r h => by simp [impl_burn.l2] at h⟩
  | k + 1 => by
    obtain ⟨ih0, ih1, ih2, ih3⟩ := impl_burn.mono_l k
    refine ⟨?_, ?_, ?_, ?_⟩
    · intro y0 y1 y2 y3
      unfold impl_burn.l0
      exact zm3
    · intro y0 y1 y2 y3 y4 y5
      unfold impl_burn.l1
      exact zm3
    · intro y0 y1 y2 y3 y4 y5 y6
      unfold impl_burn.j2
      exact zm3
    · intro y0 y1 y2 y3 y4 y5 y6 y7 y8 y9
      unfold impl_burn.l2
      exact zm3
theorem impl_burn.mono : ∀ a0 a1 a2 a3 k, LeO (impl_burn.f k a0 a1 a2 a3) (impl_burn.f (k + 1) a0 a1 a2 a3) := by
  intro a0 a1 a2 a3 k; obtain ⟨ih0, ih1, ih2, ih3⟩ := impl_burn.mono_l k; unfold impl_burn.f; exact zm3
end Go.Proofs.Ytjecgolakaiddaa.P
end

section
namespace Go.Proofs.Ytjecgolakaiddaa.P
open Go.RowKit Go.Proofs.YtjecgolakaiddaaW.PrintWords Go.Proofs.YtjecgolakaiddaaW.PrintLast Go.Proofs.YtjecgolakaiddaaW.PrintMore
attribute [local go_sem] max2_int min2_int max_two min_two max_three min_three max_four min_four
set_option linter.unusedVariables false
set_option linter.unusedSimpArgs false
mutual
def spec_FullPile.j0 : Nat → Int → Bool → Int → List (S70) → Option (List Int)
  | 0, _, _, _, _ => none
  | k + 1, x1, x17, x102000, x102001 => if x17 = true then (some ([] : List Int)) else (spec_FullPile.l0 k x1 (([] : List Int)) 0 x102000 x102001)
def spec_FullPile.l0 : Nat → Int → List Int → Int → Int → List (S70) → Option (List Int)
  | 0, _, _, _, _, _ => none
  | k + 1, x1, x5, x6, x102000, x102001 => if x6 < x102000 then (if x6 = x1 then (if x5.length < 17592186044416 then (spec_FullPile.l0 k x1 (x5 ++ [0]) (wrap64 (x6 + 1)) x102000 x102001) else (none)) else ((spec_Valence.f k x102000 x102001 x6).bind fun t110 => (if x5.length < 17592186044416 then (spec_FullPile.l0 k x1 (x5 ++ [wrap64 (t110 - 1)]) (wrap64 (x6 + 1)) x102000 x102001) else (none)))) else (some x5)
end
def spec_FullPile.f (k : Nat) (a0_0 : Int) (l0_1 : List (S70)) (a1 : Int) : Option (List Int) := (spec_GraphOk.f k a0_0 l0_1).bind fun t102 => (if t102 = true then ((spec_l01In.f a1 0 (wrap64 (a0_0 - 1))).bind fun t103 => (spec_FullPile.j0 k a1 (!t103) a0_0 l0_1)) else (spec_FullPile.j0 k a1 true a0_0 l0_1))
theorem spec_FullPile.mono_l : ∀ k, (∀ y0 y1 y2 y3, LeO (spec_FullPile.j0 k y0 y1 y2 y3) (spec_FullPile.j0 (k + 1) y0 y1 y2 y3)) ∧ (∀ y0 y1 y2 y3 y4, LeO (spec_FullPile.l0 k y0 y1 y2 y3 y4) (spec_FullPile.l0 (k + 1) y0 y1 y2 y3 y4))
  | 0 => ⟨fun _ _ _ _ r h => by simp [spec_FullPile.j0] at h, fun _ _ _ _ _ r h => by simp [spec_FullPile.l0] at h⟩
  | k + 1 => by
    obtain ⟨ih0, ih1⟩ := spec_FullPile.mono_l k
    refine ⟨?_, ?_⟩
    · intro y0 y1 y2 y3
      unfold spec_FullPile.j0
      exact zm9
    · intro y0 y1 y2 y3 y4
      unfold spec_FullPile.l0
      exact zm9
theorem spec_FullPile.mono : ∀ a0 a1 a2 k, LeO (spec_FullPile.f k a0 a1 a2) (spec_FullPile.f (k + 1) a0 a1 a2) := by
  intro a0 a1 a2 k; obtain ⟨ih0, ih1⟩ := spec_FullPile.mono_l k; unfold spec_FullPile.f; exact zm9
end Go.Proofs.Ytjecgolakaiddaa.P
end

section
namespace Go.Proofs.Ytjecgolakaiddaa.P
open Go.RowKit Go.Proofs.YtjecgolakaiddaaW.PrintWords Go.Proofs.YtjecgolakaiddaaW.PrintLast Go.Proofs.YtjecgolakaiddaaW.PrintMore
attribute [local go_sem] max2_int min2_int max_two min_two max_three min_three max_four min_four
set_option linter.unusedVariables false
set_option linter.unusedSimpArgs false
def impl_FullPile.l0 : Nat → Int → List Int → Int → Int → Int → List (S70) → Option (List Int)
  | 0, _, _, _, _, _, _ => none
  | k + 1, x1, x5, x15, x16, x102000, x102001 => if x16 < x15 then (if x16 = x1 then (impl_FullPile.l0 k x1 x5 x15 (wrap64 (x16 + 1)) x102000 x102001) else ((impl_Valence.f k x102000 x102001 x16).bind fun t106 => (if 0 ≤ x16 then (if x16 < (x5.length : Int) then (impl_FullPile.l0 k x1 (x5.set (x16 : Int).toNat (wrap64 (t106 - 1))) x15 (wrap64 (x16 + 1)) x102000 x102001) else (none)) else (none)))) else (some x5)
def impl_FullPile.f (k : Nat) (a0_0 : Int) (l0_1 : List (S70)) (a1 : Int) : Option (List Int) := (impl_isVertex.f a0_0 l0_1 a1).bind fun t102 => (if t102 = true then (if 0 ≤ a0_0 then (if (a0_0 : Int).toNat ≤ 35184372088832 then ((some (List.replicate (a0_0 : Int).toNat 0 : List Int)).bind fun y103 => (impl_FullPile.l0 k a1 y103 (y103.length : Int) 0 a0_0 l0_1)) else (none)) else (none)) else (some ([] : List Int)))
theorem impl_FullPile.mono_l : ∀ k, (∀ y0 y1 y2 y3 y4 y5, LeO (impl_FullPile.l0 k y0 y1 y2 y3 y4 y5) (impl_FullPile.l0 (k + 1) y0 y1 y2 y3 y4 y5))
  | 0 => fun _ _ _ _ _ _ r h => by simp [impl_FullPile.l0] at h
  | k + 1 => by
    have ih0 := impl_FullPile.mono_l k
    · intro y0 y1 y2 y3 y4 y5
      unfold impl_FullPile.l0
      exact zm7
theorem impl_FullPile.mono : ∀ a0 a1 a2 k, LeO (impl_FullPile.f k a0 a1 a2) (impl_FullPile.f (k + 1) a0 a1 a2) := by
  intro a0 a1 a2 k; have ih0 := impl_FullPile.mono_l k; unfold impl_FullPile.f; exact zm7
def spec_AddDivisors.l0 : Nat → List Int → List Int → List Int → Int → Int → Option (List Int × Bool)
  | 0, _, _, _, _, _ => none
  | k + 1, x1, x6, x15, x16, x17 => if x17 < x16 then (if 0 ≤ x17 then (if x17 < (x15.length : Int) then (if x17 < (x1.length : Int) then (if x6.length < 17592186044416 then (spec_AddDivisors.l0 k x1 (x6 ++ [wrap64 ((rd x15 x17) + (rd x1 x17))]) x15 x16 (wrap64 (x17 + 1))) else (none)) else (none)) else (none)) else (none)) else (some (x6, true))
def spec_AddDivisors.f (k : Nat) (l0 : List Int) (l1 : List Int) : Option (List Int × Bool) := if (l0.length : Int) = (l1.length : Int) then (spec_AddDivisors.l0 k l1 (([] : List Int)) l0 (l0.length : Int) 0) else (some (([] : List Int), false))
theorem spec_AddDivisors.mono_l : ∀ k, (∀ y0 y1 y2 y3 y4, LeO (spec_AddDivisors.l0 k y0 y1 y2 y3 y4) (spec_AddDivisors.l0 (k + 1) y0 y1 y2 y3 y4))
  | 0 => fun _ _ _ _ _ r h => by simp [spec_AddDivisors.l0] at h
  | k + 1 => by
    have ih0 := spec_AddDivisors.mono_l k
    · intro y0 y1 y2 y3 y4
      unfold spec_AddDivisors.l0
      exact zm0
theorem spec_AddDivisors.mono : ∀ a0 a1 k, LeO (spec_AddDivisors.f k a0 a1) (spec_AddDivisors.f (k + 1) a0 a1) := by
  intro a0 a1 k; have ih0 := spec_AddDivisors.mono_l k; unfold spec_AddDivisors.f; exact zm0
def spec_l07Minus.l0 : Nat → List Int → List Int → List Int → Int → Int → Option (List Int)
  | 0, _, _, _, _, _ => none
  | k + 1, x1, x5, x9, x10, x11 => if x11 < x10 then (if 0 ≤ x11 then (if x11 < (x9.length : Int) then (if x11 < (x1.length : Int) then (if x5.length < 17592186044416 then (spec_l07Minus.l0 k x1 (x5 ++ [wrap64 ((rd x9 x11) - (rd x1 x11))]) x9 x10 (wrap64 (x11 + 1))) else (none)) else (none)) else (none)) else (none)) else (some x5)
def spec_l07Minus.f (k : Nat) (l0 : List Int) (l1 : List Int) : Option (List Int) := spec_l07Minus.l0 k l1 (([] : List Int)) l0 (l0.length : Int) 0
theorem spec_l07Minus.mono_l : ∀ k, (∀ y0 y1 y2 y3 y4, LeO (spec_l07Minus.l0 k y0 y1 y2 y3 y4) (spec_l07Minus.l0 (k + 1) y0 y1 y2 y3 y4))
  | 0 => fun _ _ _ _ _ r h => by simp [spec_l07Minus.l0] at h
  | k + 1 => by
    have ih0 := spec_l07Minus.mono_l k
    · intro y0 y1 y2 y3 y4
      unfold spec_l07Minus.l0
      exact zm0
theorem spec_l07Minus.mono : ∀ a0 a1 k, LeO (spec_l07Minus.f k a0 a1) (spec_l07Minus.f (k + 1) a0 a1) := by
  intro a0 a1 k; have ih0 := spec_l07Minus.mono_l k; unfold spec_l07Minus.f; exact zm0
def impl_NegateDivisor.l0 : Nat → List Int → Int → Int → Option (List Int)
  | 0, _, _, _ => none
  | k + 1, x3, x8, x9 => if x9 < x8 then (if 0 ≤ x9 then (if x9 < (x3.length : Int) then (impl_NegateDivisor.l0 k (x3.set (x9 : Int).toNat (wrap64 (-(rd x3 x9)))) x8 (wrap64 (x9 + 1))) else (none)) else (none)) else (some x3)
def impl_NegateDivisor.f (k : Nat) (l0 : List Int) : Option (List Int) := (impl_copyInts.f l0).bind fun t101 => (impl_NegateDivisor.l0 k t101 (t101.length : Int) 0)
theorem impl_NegateDivisor.mono_l : ∀ k, (∀ y0 y1 y2, LeO (impl_NegateDivisor.l0 k y0 y1 y2) (impl_NegateDivisor.l0 (k + 1) y0 y1 y2))
  | 0 => fun _ _ _ r h => by simp [impl_NegateDivisor.l0] at h
  | k + 1 => by
    have ih0 := impl_NegateDivisor.mono_l k
    · intro y0 y1 y2
      unfold impl_NegateDivisor.l0
      exact zm0
theorem impl_NegateDivisor.mono : ∀ a0 k, LeO (impl_NegateDivisor.f k a0) (impl_NegateDivisor.f (k + 1) a0) := by
  intro a0 k; have ih0 := impl_NegateDivisor.mono_l k; unfold impl_NegateDivisor.f; exact zm0
def spec_NegateDivisor.l0 : Nat → List Int → List Int → Int → Int → Option (List Int)
  | 0, _, _, _, _ => none
  | k + 1, x3, x7, x8, x9 => if x9 < x8 then (if 0 ≤ x9 then (if x9 < (x7.length : Int) then (if x3.length < 17592186044416 then (spec_NegateDivisor.l0 k (x3 ++ [wrap64 (-(rd x7 x9))]) x7 x8 (wrap64 (x9 + 1))) else (none)) else (none)) else (none)) else (some x3)
def spec_NegateDivisor.f (k : Nat) (l0 : List Int) : Option (List Int) := spec_NegateDivisor.l0 k (([] : List Int)) l0 (l0.length : Int) 0
theorem spec_NegateDivisor.mono_l : ∀ k, (∀ y0 y1 y2 y3, LeO (spec_NegateDivisor.l0 k y0 y1 y2 y3) (spec_NegateDivisor.l0 (k + 1) y0 y1 y2 y3))
  | 0 => fun _ _ _ _ r h => by simp [spec_NegateDivisor.l0] at h
  | k + 1 => by
    have ih0 := spec_NegateDivisor.mono_l k
    · intro y0 y1 y2 y3
      unfold spec_NegateDivisor.l0
      exact zm0
theorem spec_NegateDivisor.mono : ∀ a0 k, LeO (spec_NegateDivisor.f k a0) (spec_NegateDivisor.f (k + 1) a0) := by
  intro a0 k; have ih0 := spec_NegateDivisor.mono_l k; unfold spec_NegateDivisor.f; exact zm0
def slices_Equal_int_int.l0 : Nat → List Int → List Int → Int → Int → Option (Bool)
  | 0, _, _, _, _ => none
  | k + 1, x0, x1, x12, x13 => if x13 < x12 then (if 0 ≤ x13 then (if x13 < (x0.length : Int) then (if x13 < (x1.length : Int) then (if (rd x0 x13) = (rd x1 x13) then (slices_Equal_int_int.l0 k x0 x1 x12 (wrap64 (x13 + 1))) else (some false)) else (none)) else (none)) else (none)) else (some true)
def slices_Equal_int_int.f (k : Nat) (l0 : List Int) (l1 : List Int) : Option (Bool) := if (l0.length : Int) = (l1.length : Int) then (slices_Equal_int_int.l0 k l0 l1 (l0.length : Int) 0) else (some false)
theorem slices_Equal_int_int.mono_l : ∀ k, (∀ y0 y1 y2 y3, LeO (slices_Equal_int_int.l0 k y0 y1 y2 y3) (slices_Equal_int_int.l0 (k + 1) y0 y1 y2 y3))
  | 0 => fun _ _ _ _ r h => by simp [slices_Equal_int_int.l0] at h
  | k + 1 => by
    have ih0 := slices_Equal_int_int.mono_l k
    · intro y0 y1 y2 y3
      unfold slices_Equal_int_int.l0
      exact zm0
theorem slices_Equal_int_int.mono : ∀ a0 a1 k, LeO (slices_Equal_int_int.f k a0 a1) (slices_Equal_int_int.f (k + 1) a0 a1) := by
  intro a0 a1 k; have ih0 := slices_Equal_int_int.mono_l k; unfold slices_Equal_int_int.f; exact zm0
def impl_SameDivisor.f (k : Nat) (l0 : List Int) (l1 : List Int) : Option (Bool) := (slices_Equal_int_int.f k l0 l1).bind fun t101 => (some t101)
theorem impl_SameDivisor.mono : ∀ a0 a1 k, LeO (impl_SameDivisor.f k a0 a1) (impl_SameDivisor.f (k + 1) a0 a1) := by
  intro a0 a1 k; unfold impl_SameDivisor.f; repeat' first | (with_reducible apply slices_Equal_int_int.mono) | (with_reducible exact LeO.refl _) | (with_reducible exact LeO.none _) | (with_reducible refine LeO.ite ?_ ?_) | (with_reducible refine LeO.bind ?_ (fun _ => ?_)) | apply slices_Equal_int_int.mono | exact LeO.none _ | refine LeO.ite ?_ ?_ | refine LeO.bind ?_ (fun _ => ?_)
def spec_SameDivisor.l0 : Nat → List Int → List Int → Int → Int → Option (Bool)
  | 0, _, _, _, _ => none
  | k + 1, x1, x12, x13, x14 => if x14 < x13 then (if 0 ≤ x14 then (if x14 < (x12.length : Int) then (if x14 < (x1.length : Int) then (if (rd x12 x14) = (rd x1 x14) then (spec_SameDivisor.l0 k x1 x12 x13 (wrap64 (x14 + 1))) else (some false)) else (none)) else (none)) else (none)) else (some true)
def spec_SameDivisor.f (k : Nat) (l0 : List Int) (l1 : List Int) : Option (Bool) := if (l0.length : Int) = (l1.length : Int) then (spec_SameDivisor.l0 k l1 l0 (l0.length : Int) 0) else (some false)
theorem spec_SameDivisor.mono_l : ∀ k, (∀ y0 y1 y2 y3, LeO (spec_SameDivisor.l0 k y0 y1 y2 y3) (spec_SameDivisor.l0 (k + 1) y0 y1 y2 y3))
  | 0 => fun _ _ _ _ r h => by simp [spec_SameDivisor.l0] at h
  | k + 1 => by
    have ih0 := spec_SameDivisor.mono_l k
    · intro y0 y1 y2 y3
      unfold spec_SameDivisor.l0
      exact zm0
theorem spec_SameDivisor.mono : ∀ a0 a1 k, LeO (spec_SameDivisor.f k a0 a1) (spec_SameDivisor.f (k + 1) a0 a1) := by
  intro a0 a1 k; have ih0 := spec_SameDivisor.mono_l k; unfold spec_SameDivisor.f; exact zm0
end Go.Proofs.Ytjecgolakaiddaa.P
end

section
namespace Go.Proofs.Ytjecgolakaiddaa.Cf
set_option linter.unusedVariables false
set_option linter.unusedSimpArgs false
open Go.RowKit Go.Proofs.YtjecgolakaiddaaW.PrintWords Go.Proofs.Ytjecgolakaiddaa.P
def plusL (a b : List Int) : List Int := repL a.length fun w => rd a w + rd b w
theorem implPlus_l0 (a b : List Int) (n : Nat) (hn : n ≤ 1048576) (ha : a.length = n) (hb : b.length = n) (ba : Bd a 1000000000) (bb : Bd b 1000000000) : ∀ (d i : Nat) (x : List Int), i + d = n → Rep n x (fun w => if w < i then rd a w + rd b w else rd a w) → Ep (fun k => impl_plus.l0 k b x (n : Int) (i : Int)) (· = plusL a b) := by
  intro d
  induction d with
  | zero =>
    intro i x hi hx
    obtain rfl : i = n := by omega
    refine Ep.up ?_
    simp only [impl_plus.l0]
    refine Ep.neg (by omega) (Ep.now ?_)
    unfold plusL
    rw [ha]
    exact (hx.congr fun w _ w1 => by rw [if_pos w1]).eq
  | succ d ih =>
    intro i x hi hx
    have hxl := hx.1
    have h1 := ba i (by omega) (by omega)
    have h2 := bb i (by omega) (by omega)
    have hxi : rd x (i : Int) = rd a (i : Int) := by
      have h9 := hx.2 i (by omega) (by omega)
      simp only [if_neg (show ¬ (i : Int) < i by omega)] at h9
      exact h9
    refine Ep.up ?_
    simp only [impl_plus.l0]
    refine Ep.pos (by omega) (Ep.pos (by omega) (Ep.pos (by omega) (Ep.pos (by omega) ?_)))
    rw [wrap_succ (by omega), hxi, wrap_id (by omega) (by omega)]
    refine ih (i + 1) _ (by omega) ((hx.set (v := (i : Int)) (by omega) (by omega) _).congr fun w _ _ => ?_)
    by_cases e : w = i
    · rw [if_pos e, if_pos (by omega), e]
    · rw [if_neg e]
      by_cases e2 : w < i
      · rw [if_pos e2, if_pos (by omega)]
      · rw [if_neg e2, if_neg (by omega)]
theorem implPlus (a b : List Int) (hl : a.length ≤ 1048576) (hab : a.length = b.length) (ba : Bd a 1000000000) (bb : Bd b 1000000000) : Ep (fun k => impl_plus.f k a b) (· = plusL a b) := by
  simp only [impl_plus.f]
  refine Ep.bind0 (copy_eq a hl) ?_
  exact implPlus_l0 a b a.length hl rfl hab.symm ba bb a.length 0 a (by omega) ((Rep.self rfl).congr fun w w0 _ => by rw [if_neg (by omega)])
end Go.Proofs.Ytjecgolakaiddaa.Cf
end

section
namespace Go.Proofs.Ytjecgolakaiddaa.P
open Go.RowKit Go.Proofs.YtjecgolakaiddaaW.PrintWords Go.Proofs.YtjecgolakaiddaaW.PrintLast Go.Proofs.YtjecgolakaiddaaW.PrintMore
attribute [local go_sem] max2_int min2_int max_two min_two max_three min_three max_four min_four
set_option linter.unusedVariables false
set_option linter.unusedSimpArgs false
def spec_SumOfPiles.j0 : Nat → List Int → List Int → Int → Bool → Int → List (S70) → Option (List Int × Bool)
  | 0, _, _, _, _, _, _ => none
  | k + 1, x1, x2, x3, x26, x102000, x102001 => if x26 = true then (some (([] : List Int), false)) else ((spec_AddDivisors.f k x1 x2).bind fun bt104 => ((spec_Stabilize.f k x102000 x102001 bt104.1 x3).bind fun bt108 => (some (bt108.1, bt108.2.2))))
def spec_SumOfPiles.f (k : Nat) (a0_0 : Int) (l0_1 : List (S70)) (l1 : List Int) (l2 : List Int) (a3 : Int) : Option (List Int × Bool) := (spec_PileOk.f k a0_0 l0_1 l1 a3).bind fun t102 => (if t102 = true then ((spec_PileOk.f k a0_0 l0_1 l2 a3).bind fun t103 => (spec_SumOfPiles.j0 k l1 l2 a3 (!t103) a0_0 l0_1)) else (spec_SumOfPiles.j0 k l1 l2 a3 true a0_0 l0_1))
theorem spec_SumOfPiles.mono_l : ∀ k, (∀ y0 y1 y2 y3 y4 y5, LeO (spec_SumOfPiles.j0 k y0 y1 y2 y3 y4 y5) (spec_SumOfPiles.j0 (k + 1) y0 y1 y2 y3 y4 y5))
  | 0 => fun _ _ _ _ _ _ r h => by simp [spec_SumOfPiles.j0] at h
  | k + 1 => by
    have ih0 := spec_SumOfPiles.mono_l k
    · intro y0 y1 y2 y3 y4 y5
      unfold spec_SumOfPiles.j0
      exact zm15
theorem spec_SumOfPiles.mono : ∀ a0 a1 a2 a3 a4 k, LeO (spec_SumOfPiles.f k a0 a1 a2 a3 a4) (spec_SumOfPiles.f (k + 1) a0 a1 a2 a3 a4) := by
  intro a0 a1 a2 a3 a4 k; have ih0 := spec_SumOfPiles.mono_l k; unfold spec_SumOfPiles.f; exact zm15
def impl_SumOfPiles.j0 : Nat → List Int → List Int → Int → Bool → Int → List (S70) → Option (List Int × Bool)
  | 0, _, _, _, _, _, _ => none
  | k + 1, x1, x2, x3, x32, x102000, x102001 => if x32 = true then (some (([] : List Int), false)) else ((impl_plus.f k x1 x2).bind fun t108 => ((impl_stabilize.f k x102000 x102001 t108 x3).bind fun bt111 => (some (bt111.1, true))))
def impl_SumOfPiles.f (k : Nat) (a0_0 : Int) (l0_1 : List (S70)) (l1 : List Int) (l2 : List Int) (a3 : Int) : Option (List Int × Bool) := (impl_PileOk.f k a0_0 l0_1 l1 a3).bind fun t102 => (if t102 = true then ((impl_PileOk.f k a0_0 l0_1 l2 a3).bind fun t103 => (if t103 = true then ((impl_plus.f k l1 l2).bind fun t104 => ((impl_PileOk.f k a0_0 l0_1 t104 a3).bind fun t107 => (impl_SumOfPiles.j0 k l1 l2 a3 (!t107) a0_0 l0_1))) else (impl_SumOfPiles.j0 k l1 l2 a3 true a0_0 l0_1))) else (impl_SumOfPiles.j0 k l1 l2 a3 true a0_0 l0_1))
theorem impl_SumOfPiles.mono_l : ∀ k, (∀ y0 y1 y2 y3 y4 y5, LeO (impl_SumOfPiles.j0 k y0 y1 y2 y3 y4 y5) (impl_SumOfPiles.j0 (k + 1) y0 y1 y2 y3 y4 y5))
  | 0 => fun _ _ _ _ _ _ r h => by simp [impl_SumOfPiles.j0] at h
  | k + 1 => by
    have ih0 := impl_SumOfPiles.mono_l k
    · intro y0 y1 y2 y3 y4 y5
      unfold impl_SumOfPiles.j0
      exact zm18
theorem impl_SumOfPiles.mono : ∀ a0 a1 a2 a3 a4 k, LeO (impl_SumOfPiles.f k a0 a1 a2 a3 a4) (impl_SumOfPiles.f (k + 1) a0 a1 a2 a3 a4) := by
  intro a0 a1 a2 a3 a4 k; have ih0 := impl_SumOfPiles.mono_l k; unfold impl_SumOfPiles.f; exact zm18
def spec_l11Lit.l0 : Nat → Int → List Int → List Int → Int → Int → Int → List (S70) → Option (List Int)
  | 0, _, _, _, _, _, _, _ => none
  | k + 1, x2, x7, x11, x12, x13, x102000, x102001 => if x13 < x12 then (if 0 ≤ x13 then (if x13 < (x11.length : Int) then ((spec_Multiplicity.f k x102000 x102001 x2 x13).bind fun t106 => (if x7.length < 17592186044416 then (spec_l11Lit.l0 k x2 (x7 ++ [wrap64 ((rd x11 x13) + t106)]) x11 x12 (wrap64 (x13 + 1)) x102000 x102001) else (none))) else (none)) else (none)) else (some x7)
def spec_l11Lit.f (k : Nat) (a0_0 : Int) (l0_1 : List (S70)) (l1 : List Int) (a2 : Int) : Option (List Int) := spec_l11Lit.l0 k a2 (([] : List Int)) l1 (l1.length : Int) 0 a0_0 l0_1
theorem spec_l11Lit.mono_l : ∀ k, (∀ y0 y1 y2 y3 y4 y5 y6, LeO (spec_l11Lit.l0 k y0 y1 y2 y3 y4 y5 y6) (spec_l11Lit.l0 (k + 1) y0 y1 y2 y3 y4 y5 y6))
  | 0 => fun _ _ _ _ _ _ _ r h => by simp [spec_l11Lit.l0] at h
  | k + 1 => by
    have ih0 := spec_l11Lit.mono_l k
    · intro y0 y1 y2 y3 y4 y5 y6
      unfold spec_l11Lit.l0
      exact zm24
theorem spec_l11Lit.mono : ∀ a0 a1 a2 a3 k, LeO (spec_l11Lit.f k a0 a1 a2 a3) (spec_l11Lit.f (k + 1) a0 a1 a2 a3) := by
  intro a0 a1 a2 a3 k; have ih0 := spec_l11Lit.mono_l k; unfold spec_l11Lit.f; exact zm24
def spec_IsRecurrent.l0 : Nat → List Int → Int → List Int → List Int → Int → Int → Option (Bool)
  | 0, _, _, _, _, _, _ => none
  | k + 1, x1, x2, x7, x26, x27, x28 => if x28 < x27 then (if 0 ≤ x28 then (if x28 < (x26.length : Int) then (if x28 = x2 then (spec_IsRecurrent.l0 k x1 x2 x7 x26 x27 (wrap64 (x28 + 1))) else (if (rd x26 x28) = 1 then (spec_IsRecurrent.l0 k x1 x2 x7 x26 x27 (wrap64 (x28 + 1))) else (some false))) else (none)) else (none)) else ((spec_SameDivisor.f k x7 x1).bind fun t113 => (some t113))
def spec_IsRecurrent.f (k : Nat) (a0_0 : Int) (l0_1 : List (S70)) (l1 : List Int) (a2 : Int) : Option (Bool) := (spec_IsStable.f k a0_0 l0_1 l1 a2).bind fun t102 => (if t102 = true then ((spec_l11Lit.f k a0_0 l0_1 l1 a2).bind fun t103 => ((spec_l10Settle.f k a0_0 l0_1 t103 a2).bind fun bt106 => (spec_IsRecurrent.l0 k l1 a2 bt106.1 bt106.2 (bt106.2.length : Int) 0))) else (some false))
theorem spec_IsRecurrent.mono_l : ∀ k, (∀ y0 y1 y2 y3 y4 y5, LeO (spec_IsRecurrent.l0 k y0 y1 y2 y3 y4 y5) (spec_IsRecurrent.l0 (k + 1) y0 y1 y2 y3 y4 y5))
  | 0 => fun _ _ _ _ _ _ r h => by simp [spec_IsRecurrent.l0] at h
  | k + 1 => by
    have ih0 := spec_IsRecurrent.mono_l k
    · intro y0 y1 y2 y3 y4 y5
      unfold spec_IsRecurrent.l0
      exact zm12
theorem spec_IsRecurrent.mono : ∀ a0 a1 a2 a3 k, LeO (spec_IsRecurrent.f k a0 a1 a2 a3) (spec_IsRecurrent.f (k + 1) a0 a1 a2 a3) := by
  intro a0 a1 a2 a3 k; have ih0 := spec_IsRecurrent.mono_l k; unfold spec_IsRecurrent.f; exact zm12
def impl_IsRecurrent.l0 : Nat → List Int → Int → List Int → List Int → Int → Int → Option (Bool)
  | 0, _, _, _, _, _, _ => none
  | k + 1, x1, x2, x8, x33, x34, x35 => if x35 < x34 then (if 0 ≤ x35 then (if x35 < (x33.length : Int) then (if x35 = x2 then (impl_IsRecurrent.l0 k x1 x2 x8 x33 x34 (wrap64 (x35 + 1))) else (if (rd x33 x35) = 1 then (impl_IsRecurrent.l0 k x1 x2 x8 x33 x34 (wrap64 (x35 + 1))) else (some false))) else (none)) else (none)) else ((impl_SameDivisor.f k x8 x1).bind fun t115 => (some t115))
def impl_IsRecurrent.f (k : Nat) (a0_0 : Int) (l0_1 : List (S70)) (l1 : List Int) (a2 : Int) : Option (Bool) := (impl_IsStable.f k a0_0 l0_1 l1 a2).bind fun t102 => (if t102 = true then ((impl_copyInts.f l1).bind fun t103 => ((impl_fire.f k a0_0 l0_1 t103 a2 1).bind fun t106 => (if 0 ≤ a2 then (if a2 < (t103.length : Int) then ((impl_stabilize.f k a0_0 l0_1 (t106.set (a2 : Int).toNat 0) a2).bind fun bt108 => (impl_IsRecurrent.l0 k l1 a2 bt108.1 bt108.2 (bt108.2.length : Int) 0)) else (none)) else (none)))) else (some false))
theorem impl_IsRecurrent.mono_l : ∀ k, (∀ y0 y1 y2 y3 y4 y5, LeO (impl_IsRecurrent.l0 k y0 y1 y2 y3 y4 y5) (impl_IsRecurrent.l0 (k + 1) y0 y1 y2 y3 y4 y5))
  | 0 => fun _ _ _ _ _ _ r h => by simp [impl_IsRecurrent.l0] at h
  | k + 1 => by
    have ih0 := impl_IsRecurrent.mono_l k
    · intro y0 y1 y2 y3 y4 y5
      unfold impl_IsRecurrent.l0
      exact zm13
theorem impl_IsRecurrent.mono : ∀ a0 a1 a2 a3 k, LeO (impl_IsRecurrent.f k a0 a1 a2 a3) (impl_IsRecurrent.f (k + 1) a0 a1 a2 a3) := by
  intro a0 a1 a2 a3 k; have ih0 := impl_IsRecurrent.mono_l k; unfold impl_IsRecurrent.f; exact zm13
end Go.Proofs.Ytjecgolakaiddaa.P
end

section
namespace Go.Proofs.Ytjecgolakaiddaa.Cf
set_option linter.unusedVariables false
set_option linter.unusedSimpArgs false
open Go.RowKit Go.Proofs.YtjecgolakaiddaaW.PrintWords Go.Proofs.Ytjecgolakaiddaa.P
theorem Bd.of60 {p : List Int} (h : ∀ x ∈ p, -60 ≤ x ∧ x ≤ 60) : Bd p 60 := fun w h0 h1 => by
  obtain ⟨i, rfl⟩ := Int.eq_ofNat_of_zero_le h0
  have hi : i < p.length := by omega
  rw [rd_get hi]
  exact h _ (List.getElem_mem hi)
theorem pOk_all {n : Int} {es : List E} {p : List Int} {q : Int} (h : pOk n es p q = true) : ∃ m : Nat, n = m ∧ Gr m es q ∧ Pre m q p ∧ Bd p 60 ∧ Mod p := by
  obtain ⟨m, rfl, g, hp⟩ := pOk_pre h
  obtain ⟨⟨_, _, h3⟩, _⟩ := pOk_iff.1 h
  exact ⟨m, rfl, g, hp, Bd.of60 h3, fun x hx => by have := h3 x hx; omega⟩
theorem sOk_pOk {n : Int} {es : List E} {p : List Int} {q : Int} (h : sOk n es p q = true) : pOk n es p q = true := by
  unfold sOk at h
  rw [Bool.and_eq_true] at h
  exact h.1
theorem oneAt_eq {n : Nat} (es : List E) {v : Int} (hn : n ≤ 6) (h0 : 0 ≤ v) (h1 : v < n) (t : Int) : impl_oneAt.f (n : Int) es v t = some ((List.replicate n (0 : Int)).set v.toNat t) := by
  unfold impl_oneAt.f
  rw [if_pos (by omega), if_pos (by omega), Option.bind_some, if_pos h0, if_pos (by simp; omega)]
  rfl
end Go.Proofs.Ytjecgolakaiddaa.Cf
end

section
namespace Go.Proofs.Ytjecgolakaiddaa.P
open Go.RowKit Go.Proofs.YtjecgolakaiddaaW.PrintWords Go.Proofs.YtjecgolakaiddaaW.PrintLast Go.Proofs.YtjecgolakaiddaaW.PrintMore
attribute [local go_sem] max2_int min2_int max_two min_two max_three min_three max_four min_four
set_option linter.unusedVariables false
set_option linter.unusedSimpArgs false
def spec_LevelOf.f (k : Nat) (a0_0 : Int) (l0_1 : List (S70)) (l1 : List Int) (a2 : Int) : Option (Int × Bool) := (spec_IsRecurrent.f k a0_0 l0_1 l1 a2).bind fun t102 => (if t102 = true then ((spec_DegreeOf.f k l1).bind fun t103 => ((spec_Valence.f k a0_0 l0_1 a2).bind fun t104 => (some (wrap64 ((wrap64 (t103 + t104)) - (l0_1.length : Int)), true)))) else (some (0, false)))
theorem spec_LevelOf.mono : ∀ a0 a1 a2 a3 k, LeO (spec_LevelOf.f k a0 a1 a2 a3) (spec_LevelOf.f (k + 1) a0 a1 a2 a3) := by
  intro a0 a1 a2 a3 k; unfold spec_LevelOf.f; repeat' first | (with_reducible apply spec_DegreeOf.mono) | (with_reducible apply spec_IsRecurrent.mono) | (with_reducible apply spec_Valence.mono) | (with_reducible exact LeO.refl _) | (with_reducible exact LeO.none _) | (with_reducible refine LeO.ite ?_ ?_) | (with_reducible refine LeO.bind ?_ (fun _ => ?_)) | apply spec_DegreeOf.mono | apply spec_IsRecurrent.mono | apply spec_Valence.mono | exact LeO.none _ | refine LeO.ite ?_ ?_ | refine LeO.bind ?_ (fun _ => ?_)
def impl_LevelOf.f (k : Nat) (a0_0 : Int) (l0_1 : List (S70)) (l1 : List Int) (a2 : Int) : Option (Int × Bool) := (impl_IsRecurrent.f k a0_0 l0_1 l1 a2).bind fun t102 => (if t102 = true then ((impl_sumOf.f k l1).bind fun t103 => ((impl_Valence.f k a0_0 l0_1 a2).bind fun t104 => (some (wrap64 ((wrap64 (t103 + t104)) - (l0_1.length : Int)), true)))) else (some (0, false)))
theorem impl_LevelOf.mono : ∀ a0 a1 a2 a3 k, LeO (impl_LevelOf.f k a0 a1 a2 a3) (impl_LevelOf.f (k + 1) a0 a1 a2 a3) := by
  intro a0 a1 a2 a3 k; unfold impl_LevelOf.f; repeat' first | (with_reducible apply impl_IsRecurrent.mono) | (with_reducible apply impl_Valence.mono) | (with_reducible apply impl_sumOf.mono) | (with_reducible exact LeO.refl _) | (with_reducible exact LeO.none _) | (with_reducible refine LeO.ite ?_ ?_) | (with_reducible refine LeO.bind ?_ (fun _ => ?_)) | apply impl_IsRecurrent.mono | apply impl_Valence.mono | apply impl_sumOf.mono | exact LeO.none _ | refine LeO.ite ?_ ?_ | refine LeO.bind ?_ (fun _ => ?_)
end Go.Proofs.Ytjecgolakaiddaa.P
end

section
namespace Go.Proofs.Ytjecgolakaiddaa.Cf
set_option linter.unusedVariables false
set_option linter.unusedSimpArgs false
open Go.RowKit Go.Proofs.YtjecgolakaiddaaW.PrintWords Go.Proofs.Ytjecgolakaiddaa.P
/-- One chip more at v. -/
def oneMore (p : List Int) (v : Int) : List Int := p.set v.toNat (rd p v + 1)
theorem oneMore_pre {n : Nat} {es : List E} {q : Int} (g : Gr n es q) {p : List Int} (hp : Pre n q p) (hb : Bd p 60) {v : Int} (h0 : 0 ≤ v) (h1 : v < n) (hv : v ≠ q) : Pre n q (oneMore p v) := by
  have hr := (Rep.self hp.len).set h0 h1 (rd p v + 1)
  refine ⟨hr.1, fun w w0 w1 w2 => ?_, ?_⟩
  · have e : rd (oneMore p v) w = if w = v then rd p v + 1 else rd p w := hr.2 w w0 w1
    rw [e]
    have hl := hp.len
    have a1 := hp.bd v h0 h1 hv
    have a2 := hb v h0 (by omega)
    have a3 := hp.bd w w0 w1 w2
    split <;> omega
  · have e : rd (oneMore p v) q = if q = v then rd p v + 1 else rd p q := hr.2 q g.hq.1 g.hq.2
    rw [e, if_neg (fun x => hv x.symm), hp.at_q]
def dropC (n : Int) (es : List E) (p : List Int) (q v : Int) : Prop := sOk n es p q = true ∧ v ≠ q ∧ 0 ≤ v ∧ v < n
open Classical in
noncomputable def dropO (n : Int) (es : List E) (p : List Int) (q v : Int) : List Int × Int × Bool := if dropC n es p q v then ((settleS n.toNat es q (oneMore p v)).1, (settleS n.toNat es q (oneMore p v)).2.sum, true) else ([], 0, false)
theorem dropO_len (n : Int) (es : List E) (p : List Int) (q v : Int) : (dropO n es p q v).1.length ≤ 6 := by
  unfold dropO
  split
  · rename_i h
    obtain ⟨m, rfl, g, _⟩ := pOk_pre (sOk_pOk h.1)
    exact (settleS_len es q _ g.n6).1
  · simp
theorem dropO_no {n : Int} {es : List E} {p : List Int} {q v : Int} (h : ¬ dropC n es p q v) : ([], 0, false) = dropO n es p q v := by
  unfold dropO
  rw [if_neg h]
theorem settleS_mod {n : Nat} {es : List E} {q : Int} (g : Gr n es q) {p : List Int} (hp : Pre n q p) : Mod (settleS n es q p).2 := fun x hx => by
  have := settleS_bd g hp x hx
  omega
theorem specDrop (n : Int) (es : List E) (p : List Int) (q v : Int) (hel : es.length ≤ 1048576) (hl : p.length ≤ 1048576) : Ep (fun k => spec_DropChip.f k n es p q v) (· = dropO n es p q v) := by
  simp only [spec_DropChip.f]
  refine Ep.bind (specStable n es p q hel hl) ?_
  rintro _ rfl
  refine Ep.ite (fun h => ?_) (fun h => ?_)
  · refine Ep.ite (fun h2 => ?_) (fun h2 => ?_)
    · refine Ep.up ?_
      simp only [spec_DropChip.j0]
      exact Ep.pos trivial (Ep.now (dropO_no fun x => x.2.1 h2))
    · obtain ⟨m, rfl, g, hp, hb, _⟩ := pOk_all (sOk_pOk h)
      have hn := g.n6
      have hpl := hp.len
      rw [wrap_id (x := (m : Int) - 1) (by omega) (by omega)]
      refine Ep.bind0 (l01In_eq _ _ _) (Ep.up ?_)
      simp only [spec_DropChip.j0]
      refine Ep.ite (fun h3 => Ep.now (dropO_no fun x => ?_)) (fun h3 => ?_)
      · have h4 : ¬ (0 ≤ v ∧ v ≤ (m : Int) - 1) := by
          intro y
          simp [y] at h3
        have := x.2.2
        omega
      · have h4 : 0 ≤ v ∧ v ≤ (m : Int) - 1 := by simpa using h3
        have hvb := hb v h4.1 (by omega)
        refine Ep.bind0 rfl (Ep.pos (by simp; omega) (Ep.bind0 rfl (Ep.pos h4.1 (Ep.pos (by simp; omega) ?_))))
        simp only [List.nil_append]
        rw [wrap_id (x := rd p v + 1) (by omega) (by omega), show p.set v.toNat (rd p v + 1) = oneMore p v from rfl]
        have hpre := oneMore_pre g hp hb h4.1 (by omega) h2
        refine Ep.bind (specSettle g hpre) ?_
        rintro _ rfl
        refine Ep.bind (specSum _ (by have := settleS_len es q (oneMore p v) hn; omega) (settleS_mod g hpre)) ?_
        rintro _ rfl
        refine Ep.now ?_
        unfold dropO
        rw [if_pos ⟨h, h2, h4.1, by omega⟩]
        rfl
  · refine Ep.up ?_
    simp only [spec_DropChip.j0]
    exact Ep.pos trivial (Ep.now (dropO_no fun x => h x.1))
theorem implDrop (n : Int) (es : List E) (p : List Int) (q v : Int) (hel : es.length ≤ 1048576) (hl : p.length ≤ 1048576) : Ep (fun k => impl_DropChip.f k n es p q v) (· = dropO n es p q v) := by
  simp only [impl_DropChip.f]
  refine Ep.bind (implStable n es p q hel hl) ?_
  rintro _ rfl
  refine Ep.ite (fun h => ?_) (fun h => ?_)
  · refine Ep.ite (fun h2 => ?_) (fun h2 => ?_)
    · refine Ep.up ?_
      simp only [impl_DropChip.j0]
      exact Ep.pos trivial (Ep.now (dropO_no fun x => x.2.1 h2))
    · obtain ⟨m, rfl, g, hp, hb, _⟩ := pOk_all (sOk_pOk h)
      have hn := g.n6
      have hpl := hp.len
      rw [wrap_id (x := (m : Int) - 1) (by omega) (by omega)]
      refine Ep.bind0 (within_eq _ _ _) (Ep.up ?_)
      simp only [impl_DropChip.j0]
      refine Ep.ite (fun h3 => Ep.now (dropO_no fun x => ?_)) (fun h3 => ?_)
      · have h4 : ¬ (0 ≤ v ∧ v ≤ (m : Int) - 1) := by
          intro y
          simp [y] at h3
        have := x.2.2
        omega
      · have h4 : 0 ≤ v ∧ v ≤ (m : Int) - 1 := by simpa using h3
        have hr1 := (Rep.zero m).set h4.1 (show v < (m : Int) by omega) 1
        refine Ep.bind0 (oneAt_eq es hn h4.1 (by omega) 1) ?_
        refine Ep.bind (implPlus p _ hl (by rw [hpl, hr1.1]) (hb.mono (by omega)) (hr1.bd fun w _ _ => by split <;> omega)) ?_
        rintro _ rfl
        have e : plusL p ((List.replicate m (0 : Int)).set v.toNat 1) = oneMore p v := by
          have ha := repL_rep p.length fun w => rd p w + rd ((List.replicate m (0 : Int)).set v.toNat 1) w
          have hb' := (Rep.self hpl).set h4.1 (show v < (m : Int) by omega) (rd p v + 1)
          rw [hpl] at ha
          refine Rep.ext (n := m) (s := fun w => if w = v then rd p v + 1 else rd p w) ?_ hb'
          unfold plusL
          rw [hpl]
          refine ha.congr fun w w0 w1 => ?_
          have h9 : rd ((List.replicate m (0 : Int)).set v.toNat 1) w = if w = v then 1 else 0 := hr1.2 w w0 w1
          rw [h9]
          by_cases c : w = v
          · rw [if_pos c, if_pos c, c]
          · rw [if_neg c, if_neg c]; omega
        rw [e]
        have hpre := oneMore_pre g hp hb h4.1 (by omega) h2
        refine Ep.bind (implStab g hpre) ?_
        rintro _ rfl
        refine Ep.bind (implSum _ (by have := settleS_len es q (oneMore p v) hn; omega) (settleS_mod g hpre)) ?_
        rintro _ rfl
        refine Ep.now ?_
        unfold dropO
        rw [if_pos ⟨h, h2, h4.1, by omega⟩]
        rfl
  · refine Ep.up ?_
    simp only [impl_DropChip.j0]
    exact Ep.pos trivial (Ep.now (dropO_no fun x => h x.1))
end Go.Proofs.Ytjecgolakaiddaa.Cf
end

section
namespace Go.Proofs.Ytjecgolakaiddaa.Cf
set_option linter.unusedVariables false
set_option linter.unusedSimpArgs false
open Go.RowKit Go.Proofs.YtjecgolakaiddaaW.PrintWords Go.Proofs.Ytjecgolakaiddaa.P
def EWf (e : E) : Prop := Wf .i64 e.f0 ∧ Wf .i64 e.f1
theorem rdLE_get {es : List E} {i : Nat} (h : i < es.length) : rd_T96 es (i : Int) = es[i] := by simp [rd_T96, List.getD, h]
theorem szGraph_ok (n : Int) (es : List E) (a : Int) (ha : 0 ≤ a ∧ a ≤ 1048576) (hl : es.length ≤ 9223372036854775807) : ∃ t, laws_szGraph.f n es a = some t ∧ t ≤ 1048576 ∧ (¬ t < 0 → es.length ≤ 1048576) := by
  unfold laws_szGraph.f laws_szEdgeS.f
  rw [wrap_id (by omega) (by omega)]
  by_cases h : a - (es.length : Int) < 0
  · refine ⟨-1, ?_, by omega, by omega⟩
    rw [if_pos h]
    simp
  · refine ⟨a - es.length, ?_, by omega, by omega⟩
    rw [if_neg h]
    simp only [Option.bind_some]
    rw [if_neg h]
theorem toEdgeS_l0 (x0 : List E) (h : x0.length ≤ 1048576) : ∀ (d i : Nat) (x3 : List E), i + d = x0.length → x3.length = x0.length → (∀ j, j < i → x3[j]? = x0[j]?) → Ep (fun k => laws_toEdgeS.l0 k x0 x3 (i : Int)) (· = x0) := by
  intro d
  induction d with
  | zero =>
    intro i x3 hi hl hx
    refine Ep.up ?_
    simp only [laws_toEdgeS.l0]
    refine Ep.neg (by omega) (Ep.now ?_)
    apply List.ext_getElem?
    intro j
    by_cases hj : j < i
    · exact hx j hj
    · rw [List.getElem?_eq_none (by omega), List.getElem?_eq_none (by omega)]
  | succ d ih =>
    intro i x3 hi hl hx
    have hlt : i < x0.length := by omega
    refine Ep.up ?_
    simp only [laws_toEdgeS.l0]
    refine Ep.pos (by omega) (Ep.pos (by omega) ?_)
    rw [rdLE_get hlt, wrap_succ (by omega)]
    refine Ep.bind0 rfl (Ep.pos (by omega) ?_)
    refine ih (i + 1) _ (by omega) (by simpa using hl) ?_
    intro j hj
    rw [Int.toNat_natCast]
    by_cases e : i = j
    · subst e
      rw [List.getElem?_set_self (by omega), List.getElem?_eq_getElem (by omega)]
    · rw [List.getElem?_set_ne e]
      exact hx j (by omega)
theorem toGraph_ok (n : Int) (es : List E) (h : es.length ≤ 1048576) : Ep (fun k => laws_toGraph.f k n es) (· = (n, es)) := by
  simp only [laws_toGraph.f, laws_toEdgeS.f]
  refine Ep.bind (P := (· = es)) (Ep.pos (by omega) (Ep.pos (by simp; omega) ?_)) ?_
  · exact toEdgeS_l0 es h es.length 0 _ (by omega) (by simp) (fun j hj => by omega)
  · rintro _ rfl
    exact Ep.now rfl
theorem eqEdge_ok (a b : Int) : laws_eqEdge.f a b a b = some true := by simp [laws_eqEdge.f]
theorem eqEdgeS_l0 (x : List E) (h : x.length ≤ 1048576) : ∀ (d i : Nat), i + d = x.length → Ep (fun k => laws_eqEdgeS.l0 k x x (i : Int)) (· = true) := by
  intro d
  induction d with
  | zero =>
    intro i hi
    refine Ep.up ?_
    simp only [laws_eqEdgeS.l0]
    exact Ep.neg (by omega) (Ep.now rfl)
  | succ d ih =>
    intro i hi
    refine Ep.up ?_
    simp only [laws_eqEdgeS.l0]
    refine Ep.pos (by omega) (Ep.pos (by omega) (Ep.pos (by omega) ?_))
    rw [wrap_succ (by omega)]
    exact Ep.bind0 (eqEdge_ok _ _) (Ep.pos rfl (ih (i + 1) (by omega)))
theorem eqGraph_ok (n : Int) (es : List E) (h : es.length ≤ 1048576) : Ep (fun k => laws_eqGraph.f k n es n es) (· = true) := by
  simp only [laws_eqGraph.f]
  refine Ep.pos trivial (Ep.bind (P := (· = true)) ?_ ?_)
  · simp only [laws_eqEdgeS.f]
    exact Ep.pos trivial (eqEdgeS_l0 es h es.length 0 (by omega))
  · rintro _ rfl
    exact Ep.pos rfl (Ep.now rfl)
theorem markEdgeS_l0 (n : Nat) (hn : n ≤ 1048576) {B : Int} (hB : B ≤ 1099511627776) : ∀ (d i : Nat) (x : List E) (a : Int), i + d = n → x.length = n → 0 ≤ a → a + 2 * d ≤ B → Ep (fun k => laws_markEdgeS.l0 k x a (i : Int)) (fun r => 0 ≤ r.1 ∧ r.1 ≤ B) := by
  intro d
  induction d with
  | zero =>
    intro i x a hi hx h0 ha
    refine Ep.up ?_
    simp only [laws_markEdgeS.l0]
    exact Ep.neg (by omega) (Ep.now ⟨h0, by omega⟩)
  | succ d ih =>
    intro i x a hi hx h0 ha
    refine Ep.up ?_
    simp only [laws_markEdgeS.l0]
    refine Ep.pos (by omega) (Ep.pos (by omega) (Ep.bind0 rfl ?_))
    rw [wrap_succ (by omega), wrap_id (x := a + 1) (by omega) (by omega), wrap_id (x := a + 1 + 1) (by omega) (by omega)]
    exact ih (i + 1) _ _ (by omega) (by simpa using hx) (by omega) (by omega)
theorem markGraph_ok (n : Int) (es : List E) (a : Int) (h : es.length ≤ 1048576) (ha : 0 ≤ a ∧ a ≤ 1000) : Ep (fun k => laws_markGraph.f k n es a) (fun r => 0 ≤ r.1 ∧ r.1 ≤ 3000000) := by
  have := markEdgeS_l0 es.length h (B := 3000000) (by omega) es.length 0 es a (by omega) rfl ha.1 (by omega)
  simp only [laws_markGraph.f, laws_markEdgeS.f]
  refine Ep.bind this ?_
  intro r hr
  exact Ep.now hr
end Go.Proofs.Ytjecgolakaiddaa.Cf
end

